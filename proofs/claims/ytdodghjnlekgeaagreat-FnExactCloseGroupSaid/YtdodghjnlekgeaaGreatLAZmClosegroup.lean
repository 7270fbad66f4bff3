/- Plain lemmas on CloseGroup: the lists that both sides let in. -/
import Derived.Test.YtdodghjnlekgeaaGreatAid
import Derived.Test.YtdodghjnlekgeaaGreatPAx0
import Derived.Test.YtdodghjnlekgeaaGreatLAABasic
import Derived.Test.YtdodghjnlekgeaaGreatLAGLattice
import Derived.Test.YtdodghjnlekgeaaGreatLAPbSuit
import Derived.Test.YtdodghjnlekgeaaGreatLAUOrder
import Derived.Test.YtdodghjnlekgeaaGreatLAZiClose
import Derived.Test.YtdodghjnlekgeaaGreatPAx0
import Derived.Test.YtdodghjnlekgeaaGreatPAx15
import Derived.Test.YtdodghjnlekgeaaGreatPAx23
import Derived.Test.YtdodghjnlekgeaaGreatPAx6
import Derived.Test.YtdodghjnlekgeaaGreatPAx8
namespace Go.Proofs.YtdodghjnlekgeaaGreat.LA
open Go.RowKit Go.Proofs.YtdodghjnlekgeaaGreat.PA Go.Proofs.YtdodghjnlekgeaaGreatW.PrintWords Go.Proofs.YtdodghjnlekgeaaGreatW.PrintLast Go.Proofs.YtdodghjnlekgeaaGreat.Aid
set_option linter.unusedVariables false
set_option linter.unusedSimpArgs false

def rdMo (a b c : Int) (m : S48) : S48 := ⟨m.f0, ⟨(red a b c m.f1.f0 m.f1.f1).1, (red a b c m.f1.f0 m.f1.f1).2⟩⟩
def SuitM (fr a b c : Int) (m : S48) : Prop := Suit fr a b c m.f0.f0 m.f0.f1 m.f0.f2 m.f0.f3 m.f1.f0 m.f1.f1
instance (fr a b c : Int) (m : S48) : Decidable (SuitM fr a b c m) := by unfold SuitM; infer_instance
theorem SuitM.alike {fr a b c : Int} (h : FL fr a b c) {m : S48} (s : SuitM fr a b c m) : Alike fr a b c (rdMo a b c m) m := by
  obtain ⟨s1, s2⟩ := s
  exact ⟨⟨s1, red_idem h.2.1 h.2.2.2.1⟩, rfl, s2, rfl⟩
theorem cg_false (fr a b c : Int) (xs x : List S48) (i : Int) : Ev (fun k => spec_CloseGroup.l0 k fr xs false x i a b c) ([], if FL fr a b c then 2 else 1) := by
  have q := fun i => spec_l06Code_eq fr a b c i
  refine ⟨2, fun k hk => ?_⟩
  obtain ⟨k, rfl⟩ : ∃ m, k = m + 2 := ⟨k - 2, by omega⟩
  show spec_CloseGroup.l0 (k + 2) fr xs false x i a b c = _
  simp only [spec_CloseGroup.l0, spec_CloseGroup.j1]
  rw [if_neg (by decide), if_neg (by decide), q, Option.bind_some]
  by_cases h : FL fr a b c
  · simp only [if_pos h]; rfl
  · simp only [if_neg h]; rfl
theorem cg_loop {fr a b c : Int} (h : FL fr a b c) (xs : List S48) (hx : xs.length ≤ 8) (o : List S48) (d : Nat) : ∀ (i : Nat) (x : List S48), i ≤ xs.length → xs.length - i = d → x.length ≤ i →
    ((∀ y ∈ xs.drop i, SuitM fr a b c y) → Ev (fun k => spec_l06Close.f k a b c (x ++ (xs.drop i).map (rdMo a b c))) o → Ev (fun k => spec_CloseGroup.l0 k fr xs true x (i : Int) a b c) (o, 0)) ∧
    ((¬ ∀ y ∈ xs.drop i, SuitM fr a b c y) → Ev (fun k => spec_CloseGroup.l0 k fr xs true x (i : Int) a b c) ([], 2)) := by
  have q := fun i => spec_l06Code_eq fr a b c i
  induction d with
  | zero =>
    intro i x hi hd hl
    rw [List.drop_eq_nil_of_le (by omega), List.map_nil, List.append_nil]
    refine ⟨fun _ ⟨K, hK⟩ => ⟨K + 2, fun k hk => ?_⟩, fun g => absurd (fun y hy => absurd hy (by simp)) g⟩
    have hK : ∀ k, K ≤ k → spec_l06Close.f k a b c x = some o := hK
    obtain ⟨k, rfl⟩ : ∃ m, k = m + 2 := ⟨k - 2, by omega⟩
    show spec_CloseGroup.l0 (k + 2) fr xs true x i a b c = _
    simp only [spec_CloseGroup.l0, spec_CloseGroup.j1]
    rw [if_pos trivial, if_neg (by simp; omega), q, Option.bind_some, if_pos h, if_pos rfl, if_pos rfl, hK k (by omega), Option.bind_some]
  | succ d ih =>
    intro i x hi hd hl
    have h1 : i < xs.length := by omega
    have hw : wrap64 ((i : Int) + 1) = ((i + 1 : Nat) : Int) := by rw [w64s (by omega) (by omega)]; omega
    have hsu := fun k hk => spec_IsSuitable_eq fr a b c xs[i].f0.f0 xs[i].f0.f1 xs[i].f0.f2 xs[i].f0.f3 xs[i].f1.f0 xs[i].f1.f1 k hk
    rw [List.drop_eq_getElem_cons h1, List.map_cons]
    have hsp : ∀ k, 10000000 ≤ k → spec_CloseGroup.l0 (k + 2) fr xs true x i a b c = if SuitM fr a b c xs[i] then spec_CloseGroup.l0 k fr xs true (x ++ [rdMo a b c xs[i]]) ((i + 1 : Nat) : Int) a b c else spec_CloseGroup.l0 k fr xs false x ((i + 1 : Nat) : Int) a b c := fun k hk => by
      simp only [spec_CloseGroup.l0, spec_CloseGroup.j1]
      rw [if_pos trivial, if_pos (by simp; omega), if_pos trivial, if_pos (by omega), if_pos (by omega), rd_mo _ _ h1, hsu k hk, Option.bind_some, hw]
      by_cases s : SuitM fr a b c xs[i]
      · have s' : Suit fr a b c xs[i].f0.f0 xs[i].f0.f1 xs[i].f0.f2 xs[i].f0.f3 xs[i].f1.f0 xs[i].f1.f1 := s
        obtain ⟨⟨_, _⟩, ⟨v1, v2⟩, v3, v4⟩ := s'
        have hm : Mod4 a b c xs[i].f1.f0 xs[i].f1.f1 := h.2.mod4 (by omega) (by omega) (by omega) (by omega)
        have hre : spec_l06Reduce.f a b c xs[i].f0.f0 xs[i].f0.f1 xs[i].f0.f2 xs[i].f0.f3 xs[i].f1.f0 xs[i].f1.f1 = some (xs[i].f0.f0, xs[i].f0.f1, xs[i].f0.f2, xs[i].f0.f3, (red a b c xs[i].f1.f0 xs[i].f1.f1).1, (red a b c xs[i].f1.f0 xs[i].f1.f1).2) := by
          unfold spec_l06Reduce.f
          rw [spec_reduce_eq hm]; rfl
        have e : decide (FL fr a b c ∧ Suit fr a b c xs[i].f0.f0 xs[i].f0.f1 xs[i].f0.f2 xs[i].f0.f3 xs[i].f1.f0 xs[i].f1.f1) = true := decide_eq_true ⟨h, s⟩
        rw [if_pos s, e, if_pos rfl, hre, Option.bind_some, if_pos (by omega)]
        rfl
      · have e : decide (FL fr a b c ∧ Suit fr a b c xs[i].f0.f0 xs[i].f0.f1 xs[i].f0.f2 xs[i].f0.f3 xs[i].f1.f0 xs[i].f1.f1) = false := decide_eq_false fun g => s g.2
        rw [if_neg s, e, if_neg (by decide)]
    have up : ∀ {r : List S48 × Int} {f : Nat → Option (List S48 × Int)}, (∀ k, 10000000 ≤ k → spec_CloseGroup.l0 (k + 2) fr xs true x i a b c = f k) → Ev f r → Ev (fun k => spec_CloseGroup.l0 k fr xs true x (i : Int) a b c) r := fun hf ⟨K, hK⟩ => ⟨K + 10000002, fun k hk => by
      obtain ⟨k, rfl⟩ : ∃ m, k = m + 2 := ⟨k - 2, by omega⟩
      show spec_CloseGroup.l0 (k + 2) fr xs true x i a b c = _
      rw [hf k (by omega)]; exact hK k (by omega)⟩
    obtain ⟨i1, i2⟩ := ih (i + 1) (x ++ [rdMo a b c xs[i]]) (by omega) (by omega) (by simp; omega)
    by_cases s : SuitM fr a b c xs[i]
    · refine ⟨fun g e => up (fun k hk => by rw [hsp k hk, if_pos s]) (i1 (fun y hy => g y (List.mem_cons_of_mem _ hy)) (by rw [List.append_assoc, List.singleton_append]; exact e)), fun g => up (fun k hk => by rw [hsp k hk, if_pos s]) (i2 (fun g' => g fun y hy => ?_))⟩
      rcases List.mem_cons.1 hy with rfl | hy
      · exact s
      · exact g' y hy
    · refine ⟨fun g => absurd (g _ List.mem_cons_self) s, fun _ => up (fun k hk => by rw [hsp k hk, if_neg s]) ?_⟩
      have := cg_false fr a b c xs x ((i + 1 : Nat) : Int)
      rw [if_pos h] at this
      exact this
theorem both_CloseGroup (fr a b c : Int) (xs : List S48) (hx : (xs.length : Int) ≤ 1048576) : ∃ r : List S48 × Int, (r.1.length : Int) ≤ 1048576 ∧ Ev (fun k => spec_CloseGroup.f k fr a b c xs) r ∧ Ev (fun k => impl_CloseGroup.f k fr a b c xs) r ∧ (r.2 = 0 → FL fr a b c ∧ (∀ y ∈ xs, SuitM fr a b c y) ∧ Closed fr a b c (xs.map (rdMo a b c)) r.1) := by
  have qi := impl_frameCode_eq fr a b c
  by_cases h : FL fr a b c
  · have hsu : ∀ k, 100 ≤ k → ∀ x : S48, impl_CloseGroup.suit k fr a b c x = some (decide (SuitM fr a b c x)) := fun k hk x => impl_isSuitable_eq h x.f0.f0 x.f0.f1 x.f0.f2 x.f0.f3 x.f1.f0 x.f1.f1 k hk
    have him : ∀ k, 100 ≤ k → impl_CloseGroup.f k fr a b c xs = if 8 < (xs.length : Int) then some ([], 2) else if (∀ y ∈ xs, SuitM fr a b c y) then (impl_closeGroup.f k a b c xs).bind fun r => some (r, 0) else some ([], 2) := fun k hk => by
      unfold impl_CloseGroup.f
      rw [qi, if_pos h, Option.bind_some, if_pos rfl]
      have e1 : (xs.all fun x => (impl_CloseGroup.suit k fr a b c x).isSome) = true := List.all_eq_true.2 fun x _ => by rw [hsu k hk x]; rfl
      rw [e1, if_pos rfl]
      by_cases hl : 8 < (xs.length : Int)
      · rw [if_pos hl, if_pos hl]
      · rw [if_neg hl, if_neg hl]
        by_cases hs : ∀ y ∈ xs, SuitM fr a b c y
        · have e2 : (xs.any fun x => !((impl_CloseGroup.suit k fr a b c x).getD false)) = false := by
            rw [List.any_eq_false]
            intro x hx'
            rw [hsu k hk x, Option.getD_some]
            simp [hs x hx']
          rw [e2, if_neg Bool.false_ne_true, if_pos hs]
        · have e2 : (xs.any fun x => !((impl_CloseGroup.suit k fr a b c x).getD false)) = true := by
            refine Decidable.byContradiction fun g => hs fun y hy => ?_
            have g := List.any_eq_false.1 (Bool.eq_false_iff.2 g) y hy
            rw [hsu k hk y, Option.getD_some] at g
            simpa using g
          rw [e2, if_pos rfl, if_neg hs]
    by_cases hl : 8 < (xs.length : Int)
    · have e : decide ((xs.length : Int) ≤ 8) = false := decide_eq_false (by omega)
      have c1 := cg_false fr a b c xs [] 0
      rw [if_pos h] at c1
      refine ⟨([], 2), by show ((0 : Nat) : Int) ≤ 1048576; omega, ?_, ⟨100, fun k hk => by show impl_CloseGroup.f k fr a b c xs = _; rw [him k hk, if_pos hl]⟩, fun z => absurd z (show ¬ (2 : Int) = 0 by decide)⟩
      unfold spec_CloseGroup.f
      rw [e]; exact c1
    · have e : decide ((xs.length : Int) ≤ 8) = true := decide_eq_true (by omega)
      by_cases hs : ∀ y ∈ xs, SuitM fr a b c y
      · obtain ⟨o, o1, ⟨K, o2⟩, o3⟩ := close_both h (xs.map (rdMo a b c)) xs (by rw [List.length_map]; omega) (by rw [List.length_map]) (fun j hj => by
          rw [List.getElem_map]
          exact (hs _ (List.getElem_mem _)).alike h)
        have o2 : ∀ k, K ≤ k → impl_closeGroup.f k a b c xs = some o := o2
        have c1 := (cg_loop h xs (by omega) o xs.length 0 [] (by omega) rfl (by simp)).1 (by rw [List.drop_zero]; exact hs) (by rw [List.drop_zero, List.nil_append]; exact o1)
        have := o3.len
        refine ⟨(o, 0), by show (o.length : Int) ≤ 1048576; omega, ?_, ⟨K + 100, fun k hk => by show impl_CloseGroup.f k fr a b c xs = _; rw [him k (by omega), if_neg hl, if_pos hs, o2 k (by omega)]; rfl⟩, fun _ => ⟨h, hs, o3⟩⟩
        unfold spec_CloseGroup.f
        rw [e]; exact c1
      · have c1 := (cg_loop h xs (by omega) [] xs.length 0 [] (by omega) rfl (by simp)).2 (by rw [List.drop_zero]; exact hs)
        refine ⟨([], 2), by show ((0 : Nat) : Int) ≤ 1048576; omega, ?_, ⟨100, fun k hk => by show impl_CloseGroup.f k fr a b c xs = _; rw [him k hk, if_neg hl, if_neg hs]⟩, fun z => absurd z (show ¬ (2 : Int) = 0 by decide)⟩
        unfold spec_CloseGroup.f
        rw [e]; exact c1
  · refine ⟨([], 1), by show ((0 : Nat) : Int) ≤ 1048576; omega, ?_, Ev.all (fun k => ?_), fun z => absurd z (show ¬ (1 : Int) = 0 by decide)⟩
    · have cf : ∀ i : Int, Ev (fun k => spec_CloseGroup.l0 k fr xs false [] i a b c) ([], 1) := fun i => by
        have := cg_false fr a b c xs [] i
        rw [if_neg h] at this
        exact this
      have q := fun i => spec_l06Code_eq fr a b c i
      unfold spec_CloseGroup.f
      cases e : decide ((xs.length : Int) ≤ 8) with
      | false => exact cf 0
      | true =>
        cases xs with
        | nil =>
          refine ⟨2, fun k hk => ?_⟩
          obtain ⟨k, rfl⟩ : ∃ m, k = m + 2 := ⟨k - 2, by omega⟩
          show spec_CloseGroup.l0 (k + 2) fr [] true [] 0 a b c = _
          simp only [spec_CloseGroup.l0, spec_CloseGroup.j1]
          rw [if_pos trivial, if_neg (by simp), q, Option.bind_some, if_neg h, if_neg (by decide)]
        | cons y ys =>
          obtain ⟨K, hK⟩ := cf (wrap64 (0 + 1))
          refine ⟨K + 10000002, fun k hk => ?_⟩
          obtain ⟨k, rfl⟩ : ∃ m, k = m + 2 := ⟨k - 2, by omega⟩
          show spec_CloseGroup.l0 (k + 2) fr (y :: ys) true [] 0 a b c = _
          have hsu := spec_IsSuitable_eq fr a b c y.f0.f0 y.f0.f1 y.f0.f2 y.f0.f3 y.f1.f0 y.f1.f1 k (by omega)
          have e0 : decide (FL fr a b c ∧ Suit fr a b c y.f0.f0 y.f0.f1 y.f0.f2 y.f0.f3 y.f1.f0 y.f1.f1) = false := decide_eq_false fun g => h g.1
          have r0 : rd_T48 (y :: ys) 0 = y := rd_mo (y :: ys) 0 (by simp)
          simp only [spec_CloseGroup.l0, spec_CloseGroup.j1]
          rw [if_pos trivial, if_pos (by simp), if_pos trivial, if_pos (by omega), if_pos (by simp), r0, hsu, Option.bind_some, e0, if_neg (by decide)]
          exact hK k (by omega)
    · show impl_CloseGroup.f k fr a b c xs = _
      unfold impl_CloseGroup.f
      rw [qi, if_neg h, Option.bind_some, if_neg (by decide)]

end Go.Proofs.YtdodghjnlekgeaaGreat.LA
