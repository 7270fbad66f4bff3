/- How a law's arguments that are structs, or slices of structs, are laid open into their one-cell leaves: plain lemmas over the reader, for any program. -/
import Derived.Test.YtfmjboloeabjmaaWWords
import Derived.Deep.Slices
import Derived.ChangeArms
import Derived.OpenShut
namespace Go.Proofs.Ytfmjboloeabjmaa.Opn
open Go.RowKit Go.ChangeShapes Go.WideShapes Go.Deep Go.Proofs.YtfmjboloeabjmaaW.PrintWords

/-- One field more. -/
def addField (P : Program) (rec : TypeId → Option (List TypeId)) (acc : List TypeId) (f : Field) : Option (List TypeId) :=
  if f.offset = acc.length then (rec f.type).bind fun ls => if P.cellsOf f.type = ls.length then some (acc ++ ls) else none else none

/-- The one-cell types that a value of type t is laid out in. -/
def leafTypes (P : Program) : Nat → TypeId → Option (List TypeId)
  | 0, _ => none
  | n + 1, t => match P.underlying t with
    | some (.struct fs) => (fs.toList.foldlM (addField P (leafTypes P n)) []).bind fun ls => if P.cellsOf t = ls.length then some ls else none
    | some _ => some [t]
    | none => none

theorem fold_inv {P : Program} {rec : TypeId → Option (List TypeId)} : ∀ (l : List Field) (acc ls : List TypeId), l.foldlM (addField P rec) acc = some ls →
    acc.length ≤ ls.length ∧ ∀ (i : Nat) (lt : TypeId), ls[i]? = some lt → acc[i]? = some lt ∨ ∃ f, f ∈ l ∧ ∃ lf, rec f.type = some lf ∧ P.cellsOf f.type = lf.length ∧ f.offset ≤ i ∧ f.offset + lf.length ≤ ls.length ∧ lf[i - f.offset]? = some lt := by
  intro l
  induction l with
  | nil =>
    intro acc ls h
    simp only [List.foldlM_nil, Option.pure_def, Option.some.injEq] at h
    subst h
    exact ⟨Nat.le_refl _, fun i lt hi => Or.inl hi⟩
  | cons f l ih =>
    intro acc ls h
    rw [List.foldlM_cons] at h
    obtain ⟨acc', h1, h2⟩ := Option.bind_eq_some_iff.1 h
    obtain ⟨hle, hi⟩ := ih acc' ls h2
    unfold addField at h1
    split at h1
    · rename_i hoff
      obtain ⟨lf, h3, h4⟩ := Option.bind_eq_some_iff.1 h1
      split at h4
      · rename_i hc
        obtain rfl := Option.some.inj h4
        rw [List.length_append] at hle
        refine ⟨by omega, fun i lt hlt => ?_⟩
        rcases hi i lt hlt with h5 | ⟨f', hf', r⟩
        · rw [List.getElem?_append] at h5
          split at h5
          · exact Or.inl h5
          · exact Or.inr ⟨f, List.mem_cons_self, lf, h3, hc, by omega, by omega, by rw [hoff]; exact h5⟩
        · exact Or.inr ⟨f', List.mem_cons_of_mem _ hf', r⟩
      · cases h4
    · cases h1

section
variable {H : Type} {enc : TypeId × Value → H} {P : Program} {w : World} {base : Nat} {spare : Nat → Bool} {held : Bool}

/-- Each leaf's cell is read at the leaf's own type. -/
theorem leaves : ∀ (n : Nat) (t : TypeId) (ls : List TypeId) (fuel : Nat) (cs : List Value) (x : DataW H × List MemPlace), leafTypes P n t = some ls → cs.length = ls.length →
    DataW.trod enc P w base spare held fuel t cs = some x → ∀ (i : Nat) (lt : TypeId), ls[i]? = some lt → ∃ c m y, cs[i]? = some c ∧ DataW.trod enc P w base spare held m lt [c] = some y := by
  intro n
  induction n with
  | zero => intro t ls fuel cs x h; simp [leafTypes] at h
  | succ n ih =>
    intro t ls fuel cs x h hlen hx i lt hi
    unfold leafTypes at h
    split at h
    · rename_i fs hu
      obtain ⟨ls', h1, h2⟩ := Option.bind_eq_some_iff.1 h
      split at h2
      · rename_i hcell
        obtain rfl := Option.some.inj h2
        obtain ⟨hle, hinv⟩ := fold_inv _ _ _ h1
        rcases hinv i lt hi with h3 | ⟨f, hf, lf, h3, h4, h5, h6, h7⟩
        · simp at h3
        · obtain ⟨xs, m, _, _, hl, hxl, hfs⟩ := DataW.trod_struct hu hx
          obtain ⟨j, hj, hjf⟩ := List.getElem_of_mem hf
          have hfj : fs[j]? = some f := by
            rw [← Array.getElem?_toList, List.getElem?_eq_getElem hj, hjf]
          have ht := hfs j f hfj
          have hjl : j < xs.length := by rw [hxl]; simpa using hj
          rw [List.getElem?_eq_getElem hjl] at ht
          obtain ⟨c, m', y, hc, hy⟩ := ih f.type lf m _ _ h3 (by rw [List.length_take, List.length_drop]; omega) ht (i - f.offset) lt h7
          refine ⟨c, m', y, ?_, hy⟩
          rw [List.getElem?_take] at hc
          split at hc
          · rw [List.getElem?_drop] at hc
            rwa [show f.offset + (i - f.offset) = i by omega] at hc
          · cases hc
      · cases h2
    · obtain rfl := Option.some.inj h
      match cs, hlen with
      | [c], _ =>
        cases i with
        | zero =>
          simp only [List.getElem?_cons_zero, Option.some.injEq] at hi
          subst hi
          exact ⟨c, fuel, x, rfl, hx⟩
        | succ i => simp at hi
    · cases h

/-- A struct that comes in by value. -/
theorem open_struct {n : Nat} {t : TypeId} {fs : Array Field} {ls : List TypeId} {r : Reach} {b : Nat} {v : Value} {d : DataW H} {p : List MemPlace} (hu : P.underlying t = some (.struct fs)) (hl : leafTypes P n t = some ls) (hc : P.cellsOf t = ls.length)
    (hv : Value.okWide P w r b t v) (h : DataW.Trod enc P w base spare held t v d p) :
    ∃ cs : Array Value, v = .agg cs ∧ cs.size = ls.length ∧ ∀ (i : Nat) (lt : TypeId), ls[i]? = some lt → ∃ c m y, cs[i]? = some c ∧ DataW.trod enc P w base spare held m lt [c] = some y := by
  obtain ⟨cs, rfl, hsz⟩ := okWide_struct hu hv
  obtain ⟨fuel, hf⟩ := h
  refine ⟨cs, rfl, hsz.trans hc, fun i lt hi => ?_⟩
  have hf' : DataW.trod enc P w base spare held fuel t cs.toList = some (d, p) := hf
  obtain ⟨c, m, y, h1, h2⟩ := leaves n t ls fuel cs.toList (d, p) hl (by simpa using hsz.trans hc) hf' i lt hi
  exact ⟨c, m, y, by simpa using h1, h2⟩

theorem leaf_int {t : TypeId} {k : IntKind} {c : Value} {m : Nat} {y : DataW H × List MemPlace} (hu : P.underlying t = some (.int k)) (h : DataW.trod enc P w base spare held m t [c] = some y) : ∃ z, c = .int k z ∧ (Lit.int k z).wf = true := by
  obtain ⟨z, h1, _, h2⟩ := DataW.trod_int hu h
  simp only [List.cons.injEq, and_true] at h1
  exact ⟨z, h1, h2⟩
/-- Cells that are all whole numbers. -/
theorem all_ints {ik : IntKind} {ls : List TypeId} (hu : ∀ lt ∈ ls, P.underlying lt = some (.int ik)) {cs : List Value} (hlen : cs.length = ls.length)
    (h : ∀ (i : Nat) (lt : TypeId), ls[i]? = some lt → ∃ c m y, cs[i]? = some c ∧ DataW.trod enc P w base spare held m lt [c] = some y) : ∃ ns : List Int, cs = ns.map (Value.int ik) ∧ ns.length = ls.length ∧ ∀ z ∈ ns, (Lit.int ik z).wf = true := by
  induction ls generalizing cs with
  | nil => exact ⟨[], by simpa using List.eq_nil_of_length_eq_zero hlen, rfl, by simp⟩
  | cons lt ls ih =>
    match cs, hlen with
    | c :: cs, hlen =>
      obtain ⟨c', m, y, h1, h2⟩ := h 0 lt rfl
      simp only [List.getElem?_cons_zero, Option.some.injEq] at h1
      subst h1
      obtain ⟨z, rfl, hz⟩ := leaf_int (hu lt List.mem_cons_self) h2
      obtain ⟨ns, h3, h4, h5⟩ := ih (fun l hl => hu l (List.mem_cons_of_mem _ hl)) (by simpa using hlen) (fun i l hi => by simpa using h (i + 1) l (by simpa using hi))
      refine ⟨z :: ns, by simp [h3], by simp [h4], fun a ha => ?_⟩
      rcases List.mem_cons.1 ha with rfl | ha
      · exact hz
      · exact h5 a ha

/-- A slice whose elements are laid out in whole numbers alone. -/
theorem open_rows {ik : IntKind} {α : Type} {n : Nat} {t e : TypeId} {ls : List TypeId} {c : Value} {fuel : Nat} {y : DataW H × List MemPlace} (ht : P.underlying t = some (.slice e)) (hl : leafTypes P n e = some ls) (hc : P.cellsOf e = ls.length)
    (hu : ∀ lt ∈ ls, P.underlying lt = some (.int ik)) (d : Kd α) (hd : d.sz = ls.length) (mk : List Int → α) (hK : ∀ ns : List Int, ns.length = ls.length → d.K w (mk ns) (ns.map (Value.int ik)))
    (h : DataW.trod enc P w base spare held fuel t [c] = some y) :
    ∃ (A : Option Addr) (cap : Nat) (xs : List α), c = .slice A xs.length cap ∧ xs.length ≤ cap ∧ cap ≤ maxLen ∧ d.C w A xs.length xs ∧
      ∀ x ∈ xs, ∃ ns : List Int, x = mk ns ∧ ns.length = ls.length ∧ ∀ z ∈ ns, (Lit.int ik z).wf = true := by
  rcases open_slice ht h with ⟨h1, _⟩ | ⟨a, len, cap, m, k, D, Pl, h1, hb, hle, hmax, hm, _, hel⟩
  · simp only [List.cons.injEq, and_true] at h1
    subst h1
    exact ⟨none, 0, [], rfl, Nat.le_refl _, Nat.zero_le _, Kd.C_nil _ _, by simp⟩
  · simp only [List.cons.injEq, and_true] at h1
    subst h1
    have hlm : len ≤ m := by rw [hm]; split <;> omega
    have hel' : ∀ i, i < len → ∃ ns : List Int, (∃ cs', w.cells? base (a.add (i * ls.length)) ls.length = some cs' ∧ cs' = ns.map (Value.int ik)) ∧ ns.length = ls.length ∧ ∀ z ∈ ns, (Lit.int ik z).wf = true := by
      intro i hi
      obtain ⟨cs', h2, h3⟩ := hel i (by omega)
      rw [hc] at h2
      obtain ⟨_, h4, _⟩ := World.cells?_some h2
      obtain ⟨ns, h5, h6, h7⟩ := all_ints hu h4 (leaves n e ls k cs' _ hl h4 h3)
      exact ⟨ns, ⟨cs', h2, h5⟩, h6, h7⟩
    obtain ⟨f, hf⟩ := choose_lt (α := List Int) hel'
    refine ⟨some a, cap, (List.range len).map fun i => mk (f i), by simp, by simpa using hle, hmax, ?_, ?_⟩
    · refine ⟨rfl, by simp; unfold maxLen at hmax; omega, fun _ => ⟨a, rfl, fun j p hj => ?_⟩⟩
      rw [List.getElem?_map] at hj
      by_cases hjl : j < len
      · rw [List.getElem?_range hjl] at hj
        simp only [Option.map_some, Option.some.injEq] at hj
        subst hj
        obtain ⟨⟨cs', h2, h3⟩, h4, _⟩ := hf j hjl
        obtain ⟨_, h5, h6⟩ := World.cells?_some h2
        subst h3
        refine ⟨_, by rw [h5, hd], hK _ h4, fun i u hi => ?_⟩
        have hil : i < ls.length := by
          have := (List.getElem?_eq_some_iff.1 hi).1
          omega
        rw [hd, ← Go.Deep.add_add, h6 i hil, hi]
      · rw [List.getElem?_eq_none (by simpa using hjl)] at hj
        cases hj
    · intro x hx
      obtain ⟨i, hi, rfl⟩ := List.mem_map.1 hx
      obtain ⟨_, h4, h5⟩ := hf i (List.mem_range.1 hi)
      exact ⟨f i, rfl, h4, h5⟩
end

theorem array3 {α : Type} {cs : Array α} (h : cs.size = 3) : ∃ c0 c1 c2, cs = #[c0, c1, c2] := by
  obtain ⟨l⟩ := cs
  match l, h with
  | [c0, c1, c2], _ => exact ⟨c0, c1, c2, rfl⟩
end Go.Proofs.Ytfmjboloeabjmaa.Opn
