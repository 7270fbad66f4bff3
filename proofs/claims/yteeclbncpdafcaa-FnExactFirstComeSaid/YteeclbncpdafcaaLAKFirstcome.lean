/- Plain lemmas on the order in which colours first come. -/
import Derived.Test.YteeclbncpdafcaaAid
import Derived.Test.YteeclbncpdafcaaPAx0
import Derived.Test.YteeclbncpdafcaaLAAdEv
import Derived.Test.YteeclbncpdafcaaLABLists
import Derived.Test.YteeclbncpdafcaaLAEPattern
import Derived.Test.YteeclbncpdafcaaPAx2
import Derived.Test.YteeclbncpdafcaaPAx24
import Derived.Test.YteeclbncpdafcaaPAx25
import Derived.Test.YteeclbncpdafcaaPAx26
import Derived.Test.YteeclbncpdafcaaPAx27
namespace Go.Proofs.Yteeclbncpdafcaa.LA
open Go.RowKit Go.Proofs.Yteeclbncpdafcaa.PA Go.Proofs.YteeclbncpdafcaaW.PrintWords Go.Proofs.YteeclbncpdafcaaW.PrintLast Go.Proofs.Yteeclbncpdafcaa.Aid
set_option linter.unusedVariables false
set_option linter.unusedSimpArgs false

theorem getD_of_lt (l : List Int) (i : Nat) (h : i < l.length) : l.getD i 0 = l[i] := by simp [List.getD, h]
theorem has_ev (s : List Int) (v : Int) (hs : (s.length : Int) ≤ 1048576) (d : Nat) : ∀ i : Nat, i ≤ s.length → s.length - i = d →
    Ev (fun k => spec_l01Has.l0 k s v i) (decide (v ∈ s.drop i)) := by
  induction d with
  | zero =>
    intro i hi hd
    obtain rfl : i = s.length := by omega
    refine Ev.one (fun k => ?_)
    simp only [spec_l01Has.l0]
    rw [if_neg (by omega)]; simp
  | succ d ih =>
    intro i hi hd
    have h1 : i < s.length := by omega
    have c1 : (i : Int) < (s.length : Int) := by omega
    have c2 : (0 : Int) ≤ (i : Int) := by omega
    have hw : wrap64 ((i : Int) + 1) = ((i + 1 : Nat) : Int) := by rw [w64s (by omega) (by omega)]; omega
    have h' := ih (i + 1) (by omega) (by omega)
    have e : rd s (i : Int) = s[i] := by rw [rd_nat, getD_of_lt s i h1]
    rw [List.drop_eq_getElem_cons h1]
    by_cases g : s[i] = v
    · refine Ev.one (fun k => ?_)
      simp only [spec_l01Has.l0]
      rw [if_pos c1, if_pos c2, e, if_pos g]; simp [g]
    · have hm : (decide (v ∈ s[i] :: s.drop (i + 1))) = decide (v ∈ s.drop (i + 1)) := by
        apply decide_eq_decide.2; rw [List.mem_cons]; exact ⟨fun h => h.resolve_left (fun h => g h.symm), Or.inr⟩
      rw [hm]
      refine Ev.step (fun k => ?_) h'
      simp only [spec_l01Has.l0]
      rw [if_pos c1, if_pos c2, e, if_neg g, hw]
theorem has_ev' (s : List Int) (v : Int) (hs : (s.length : Int) ≤ 1048576) : Ev (fun k => spec_l01Has.f k s v) (decide (v ∈ s)) := by
  simpa [spec_l01Has.f] using has_ev s v hs s.length 0 (by omega) (by omega)
theorem idx_ne {a v : Int} (s : List Int) (h : a ≠ v) : (a :: s).idxOf v = s.idxOf v + 1 := by
  have e : (a == v) = false := by simpa using h
  rw [List.idxOf_cons, e]; rfl
theorem idx_eq (a : Int) (s : List Int) : (a :: s).idxOf a = 0 := by simp [List.idxOf_cons]
theorem index_ev (s : List Int) (v : Int) (hs : (s.length : Int) ≤ 1048576) (d : Nat) : ∀ i : Nat, i ≤ s.length → s.length - i = d →
    Ev (fun k => slices_Index_int64_int64.l0 k s v (s.length : Int) i) (if v ∈ s.drop i then ((i + (s.drop i).idxOf v : Nat) : Int) else -1) := by
  induction d with
  | zero =>
    intro i hi hd
    obtain rfl : i = s.length := by omega
    refine Ev.one (fun k => ?_)
    simp only [slices_Index_int64_int64.l0]
    rw [if_neg (by omega)]; simp
  | succ d ih =>
    intro i hi hd
    have h1 : i < s.length := by omega
    have c1 : (i : Int) < (s.length : Int) := by omega
    have c2 : (0 : Int) ≤ (i : Int) := by omega
    have hw : wrap64 ((i : Int) + 1) = ((i + 1 : Nat) : Int) := by rw [w64s (by omega) (by omega)]; omega
    have h' := ih (i + 1) (by omega) (by omega)
    have e : rd s (i : Int) = s[i] := by rw [rd_nat, getD_of_lt s i h1]
    rw [List.drop_eq_getElem_cons h1]
    by_cases g : v = s[i]
    · refine Ev.one (fun k => ?_)
      simp only [slices_Index_int64_int64.l0]
      rw [if_pos c1, if_pos c2, if_pos c1, e, if_pos g, if_pos (by rw [g]; exact List.mem_cons_self), g, idx_eq]; rfl
    · have hm : (if v ∈ s[i] :: s.drop (i + 1) then ((i + (s[i] :: s.drop (i + 1)).idxOf v : Nat) : Int) else -1) = (if v ∈ s.drop (i + 1) then (((i + 1) + (s.drop (i + 1)).idxOf v : Nat) : Int) else -1) := by
        by_cases q : v ∈ s.drop (i + 1)
        · rw [if_pos (List.mem_cons_of_mem _ q), if_pos q, idx_ne _ (fun h => g h.symm)]; congr 1; omega
        · rw [if_neg q, if_neg]; rw [List.mem_cons]; exact fun h => h.elim g q
      rw [hm]
      refine Ev.step (fun k => ?_) h'
      simp only [slices_Index_int64_int64.l0]
      rw [if_pos c1, if_pos c2, if_pos c1, e, if_neg g, hw]
theorem index_ev' (s : List Int) (v : Int) (hs : (s.length : Int) ≤ 1048576) : Ev (fun k => slices_Index_int64_int64.f k s v) (if v ∈ s then ((s.idxOf v : Nat) : Int) else -1) := by
  simpa [slices_Index_int64_int64.f] using index_ev s v hs s.length 0 (by omega) (by omega)
theorem contains_ev (s : List Int) (v : Int) (hs : (s.length : Int) ≤ 1048576) : Ev (fun k => slices_Contains_int64_int64.f k s v) (decide (v ∈ s)) := by
  have h := Ev.some_ (index_ev' s v hs) (fun t => decide (t ≥ 0))
  have e : decide ((if v ∈ s then ((s.idxOf v : Nat) : Int) else -1) ≥ 0) = decide (v ∈ s) := by
    by_cases g : v ∈ s
    · rw [if_pos g]; simp [g]
    · rw [if_neg g]; simp [g]
  rw [e] at h
  exact Ev.congr (fun k => rfl) h
/-- The colours seen, with one more. -/
def addU (s : List Int) (v : Int) : List Int := if v ∈ s then s else s ++ [v]
theorem addU_nodup {s : List Int} (h : s.Nodup) (v : Int) : (addU s v).Nodup := by
  unfold addU
  by_cases g : v ∈ s
  · rw [if_pos g]; exact h
  · rw [if_neg g, List.nodup_append]
    refine ⟨h, by simp, ?_⟩
    intro a ha b hb
    rw [List.mem_singleton] at hb; subst hb
    exact fun e => g (e ▸ ha)
theorem addU_mem (s : List Int) (v : Int) : v ∈ addU s v := by
  unfold addU
  by_cases g : v ∈ s
  · rw [if_pos g]; exact g
  · rw [if_neg g]; simp
theorem addU_len (s : List Int) (v : Int) : (addU s v).length ≤ s.length + 1 := by
  unfold addU
  by_cases g : v ∈ s
  · rw [if_pos g]; omega
  · rw [if_neg g]; simp
/-- The renamed colours. -/
def fcome : List Int → List Int → List Int
  | _, [] => []
  | s, v :: l => ((addU s v).idxOf v : Int) :: fcome (addU s v) l
theorem fcome_len : ∀ (l s : List Int), (fcome s l).length = l.length
  | [], _ => rfl
  | v :: l, s => by simp [fcome, fcome_len l]
/-- The places at which a value stands. -/
def hits : List Int → Int → Nat → List Int
  | [], _, _ => []
  | a :: s, v, i => if a = v then (i : Int) :: hits s v (i + 1) else hits s v (i + 1)
theorem hits_none : ∀ (s : List Int) (v : Int) (i : Nat), v ∉ s → hits s v i = []
  | [], _, _, _ => rfl
  | a :: s, v, i, h => by
    rw [List.mem_cons, not_or] at h
    rw [hits, if_neg (fun e => h.1 e.symm)]; exact hits_none s v (i + 1) h.2
theorem hits_one : ∀ (s : List Int) (v : Int) (i : Nat), s.Nodup → v ∈ s → hits s v i = [((i + s.idxOf v : Nat) : Int)]
  | [], _, _, _, h => by simp at h
  | a :: s, v, i, hn, h => by
    rw [List.nodup_cons] at hn
    by_cases g : a = v
    · subst g
      rw [hits, if_pos rfl, hits_none s a (i + 1) hn.1]; simp
    · have h' : v ∈ s := (List.mem_cons.1 h).resolve_left (fun e => g e.symm)
      rw [hits, if_neg g, hits_one s v (i + 1) hn.2 h', idx_ne _ g]; congr 2; omega
theorem spec_inner (s l : List Int) (x : Nat) (hx : x < l.length) (hs : (s.length : Int) ≤ 1048576) (p0 p1 p2 p3 q0 q1 q2 q3 : Int) (r : Int × Int × Int × Int × List Int) (d : Nat) : ∀ (i : Nat) (out : List Int), i ≤ s.length → s.length - i = d → out.length + d ≤ 10000000 →
    Ev (fun k => spec_l18First.l0 k s (wrap64 ((x : Int) + 1)) p0 p1 p2 p3 l q0 q1 q2 q3 (out ++ hits (s.drop i) (rd l x) i)) r → Ev (fun k => spec_l18First.l1 k s x i p0 p1 p2 p3 l q0 q1 q2 q3 out) r := by
  have d1 : (0 : Int) ≤ (x : Int) := by omega
  have d2 : (x : Int) < (l.length : Int) := by omega
  induction d with
  | zero =>
    intro i out hi hd ho h
    obtain rfl : i = s.length := by omega
    refine Ev.step (fun k => ?_) h
    simp only [spec_l18First.l1]
    rw [if_neg (by omega)]; simp [hits]
  | succ d ih =>
    intro i out hi hd ho h
    have h1 : i < s.length := by omega
    have c1 : (i : Int) < (s.length : Int) := by omega
    have c2 : (0 : Int) ≤ (i : Int) := by omega
    have c3 : out.length < 17592186044416 := by omega
    have hw : wrap64 ((i : Int) + 1) = ((i + 1 : Nat) : Int) := by rw [w64s (by omega) (by omega)]; omega
    have e : rd s (i : Int) = s[i] := by rw [rd_nat, getD_of_lt s i h1]
    rw [List.drop_eq_getElem_cons h1, hits] at h
    by_cases g : s[i] = rd l x
    · rw [if_pos g] at h
      have h' := ih (i + 1) (out ++ [(i : Int)]) (by omega) (by omega) (by simp; omega) (by rw [List.append_assoc]; exact h)
      refine Ev.step (fun k => ?_) h'
      simp only [spec_l18First.l1]
      rw [if_pos c1, if_pos c2, if_pos d1, if_pos d2, e, if_pos g, if_pos c3, hw]
    · rw [if_neg g] at h
      have h' := ih (i + 1) out (by omega) (by omega) (by omega) h
      refine Ev.step (fun k => ?_) h'
      simp only [spec_l18First.l1]
      rw [if_pos c1, if_pos c2, if_pos d1, if_pos d2, e, if_neg g, hw]
theorem spec_first_loop (l : List Int) (hl : (l.length : Int) ≤ 1048576) (p0 p1 p2 p3 q0 q1 q2 q3 : Int) (d : Nat) : ∀ (x : Nat) (s out : List Int), s.Nodup → s.length ≤ x → out.length = x → x ≤ l.length → l.length - x = d →
    Ev (fun k => spec_l18First.l0 k s x p0 p1 p2 p3 l q0 q1 q2 q3 out) (q0, q1, q2, q3, out ++ fcome s (l.drop x)) := by
  induction d with
  | zero =>
    intro x s out hn hs ho hx hd
    obtain rfl : x = l.length := by omega
    refine Ev.one (fun k => ?_)
    simp only [spec_l18First.l0]
    rw [if_neg (by omega)]; simp [fcome]
  | succ d ih =>
    intro x s out hn hs ho hx hd
    have h1 : x < l.length := by omega
    have c1 : (x : Int) < (l.length : Int) := by omega
    have c2 : (0 : Int) ≤ (x : Int) := by omega
    have c3 : s.length < 17592186044416 := by omega
    have hw : wrap64 ((x : Int) + 1) = ((x + 1 : Nat) : Int) := by rw [w64s (by omega) (by omega)]; omega
    have e : rd l (x : Int) = l[x] := by rw [rd_nat, getD_of_lt l x h1]
    have hlen := addU_len s (rd l x)
    have h' := ih (x + 1) (addU s (rd l x)) (out ++ [((addU s (rd l x)).idxOf (rd l x) : Int)]) (addU_nodup hn _) (by omega) (by simp; omega) (by omega) (by omega)
    rw [← hw] at h'
    have hh := hits_one (addU s (rd l x)) (rd l x) 0 (addU_nodup hn _) (addU_mem _ _)
    rw [Nat.zero_add] at hh
    have h2 := spec_inner (addU s (rd l x)) l x h1 (by omega) p0 p1 p2 p3 q0 q1 q2 q3 _ (addU s (rd l x)).length 0 out (by omega) (by omega) (by omega) (by rw [List.drop_zero, hh]; exact h')
    have h3 : Ev (fun k => spec_l18First.j1 k (addU s (rd l x)) x p0 p1 p2 p3 l q0 q1 q2 q3 out) _ := Ev.step (fun k => by simp only [spec_l18First.j1]; rfl) h2
    have e2 : out ++ fcome s (l.drop x) = (out ++ [((addU s (rd l x)).idxOf (rd l x) : Int)]) ++ fcome (addU s (rd l x)) (l.drop (x + 1)) := by
      rw [List.drop_eq_getElem_cons h1, fcome, ← e, List.append_assoc]; rfl
    rw [e2]
    have hb := has_ev' s (rd l x) (by omega)
    by_cases g : rd l x ∈ s
    · rw [decide_eq_true g] at hb
      rw [show addU s (rd l x) = s from if_pos g] at h3 ⊢
      refine Ev.step (fun k => ?_) (Ev.bind hb (f := fun k t => if t = true then spec_l18First.j1 k s x p0 p1 p2 p3 l q0 q1 q2 q3 out else spec_l18First.j1 k (s ++ [rd l x]) x p0 p1 p2 p3 l q0 q1 q2 q3 out) (by simpa using h3))
      simp only [spec_l18First.l0]
      rw [if_pos c1, if_pos c2]; simp only [if_pos c3]
    · rw [decide_eq_false g] at hb
      rw [show addU s (rd l x) = s ++ [rd l x] from if_neg g] at h3 ⊢
      refine Ev.step (fun k => ?_) (Ev.bind hb (f := fun k t => if t = true then spec_l18First.j1 k s x p0 p1 p2 p3 l q0 q1 q2 q3 out else spec_l18First.j1 k (s ++ [rd l x]) x p0 p1 p2 p3 l q0 q1 q2 q3 out) (by simpa using h3))
      simp only [spec_l18First.l0]
      rw [if_pos c1, if_pos c2]; simp only [if_pos c3]
theorem spec_first_ev (l : List Int) (hl : (l.length : Int) ≤ 1048576) (p0 p1 p2 p3 : Int) : Ev (fun k => spec_l18First.f k p0 p1 p2 p3 l) (p0, p1, p2, p3, fcome [] l) := by
  have h := spec_first_loop l hl p0 p1 p2 p3 p0 p1 p2 p3 l.length 0 [] [] (by simp) (by simp) rfl (by omega) (by omega)
  refine Ev.congr (fun k => ?_) (by simpa using h)
  rfl
theorem impl_first_loop (l : List Int) (hl : (l.length : Int) ≤ 1048576) (q0 q1 q2 q3 : Int) (d : Nat) : ∀ (x : Nat) (s out : List Int), s.length ≤ x → out.length = x → x ≤ l.length → l.length - x = d →
    Ev (fun k => impl_Pattern_firstCome.l0 k s l (l.length : Int) x q0 q1 q2 q3 out) (q0, q1, q2, q3, out ++ fcome s (l.drop x)) := by
  induction d with
  | zero =>
    intro x s out hs ho hx hd
    obtain rfl : x = l.length := by omega
    refine Ev.one (fun k => ?_)
    simp only [impl_Pattern_firstCome.l0]
    rw [if_neg (by omega)]; simp [fcome]
  | succ d ih =>
    intro x s out hs ho hx hd
    have h1 : x < l.length := by omega
    have c1 : (x : Int) < (l.length : Int) := by omega
    have c2 : (0 : Int) ≤ (x : Int) := by omega
    have c3 : s.length < 17592186044416 := by omega
    have c4 : out.length < 17592186044416 := by omega
    have hw : wrap64 ((x : Int) + 1) = ((x + 1 : Nat) : Int) := by rw [w64s (by omega) (by omega)]; omega
    have e : rd l (x : Int) = l[x] := by rw [rd_nat, getD_of_lt l x h1]
    have hlen := addU_len s (rd l x)
    have h' := ih (x + 1) (addU s (rd l x)) (out ++ [((addU s (rd l x)).idxOf (rd l x) : Int)]) (by omega) (by simp; omega) (by omega) (by omega)
    rw [← hw] at h'
    have hi := index_ev' (addU s (rd l x)) (rd l x) (by omega)
    rw [if_pos (addU_mem _ _)] at hi
    have h3 := Ev.bind hi (f := fun k t => impl_Pattern_firstCome.l0 k (addU s (rd l x)) l (l.length : Int) (wrap64 ((x : Int) + 1)) q0 q1 q2 q3 (out ++ [t])) h'
    have e2 : out ++ fcome s (l.drop x) = (out ++ [((addU s (rd l x)).idxOf (rd l x) : Int)]) ++ fcome (addU s (rd l x)) (l.drop (x + 1)) := by
      rw [List.drop_eq_getElem_cons h1, fcome, ← e, List.append_assoc]; rfl
    rw [e2]
    have hb := contains_ev s (rd l x) (by omega)
    by_cases g : rd l x ∈ s
    · rw [decide_eq_true g] at hb
      rw [show addU s (rd l x) = s from if_pos g] at h3 ⊢
      refine Ev.step (fun k => ?_) (Ev.bind hb (f := fun k t => if t = true then (slices_Index_int64_int64.f k s (rd l x)).bind (fun t => impl_Pattern_firstCome.l0 k s l (l.length : Int) (wrap64 ((x : Int) + 1)) q0 q1 q2 q3 (out ++ [t])) else (slices_Index_int64_int64.f k (s ++ [rd l x]) (rd l x)).bind (fun t => impl_Pattern_firstCome.l0 k (s ++ [rd l x]) l (l.length : Int) (wrap64 ((x : Int) + 1)) q0 q1 q2 q3 (out ++ [t]))) (by simpa using h3))
      simp only [impl_Pattern_firstCome.l0]
      rw [if_pos c1, if_pos c2, if_pos c1]; simp only [if_pos c3, if_pos c4, Option.bind_some]
    · rw [decide_eq_false g] at hb
      rw [show addU s (rd l x) = s ++ [rd l x] from if_neg g] at h3 ⊢
      refine Ev.step (fun k => ?_) (Ev.bind hb (f := fun k t => if t = true then (slices_Index_int64_int64.f k s (rd l x)).bind (fun t => impl_Pattern_firstCome.l0 k s l (l.length : Int) (wrap64 ((x : Int) + 1)) q0 q1 q2 q3 (out ++ [t])) else (slices_Index_int64_int64.f k (s ++ [rd l x]) (rd l x)).bind (fun t => impl_Pattern_firstCome.l0 k (s ++ [rd l x]) l (l.length : Int) (wrap64 ((x : Int) + 1)) q0 q1 q2 q3 (out ++ [t]))) (by simpa using h3))
      simp only [impl_Pattern_firstCome.l0]
      rw [if_pos c1, if_pos c2, if_pos c1]; simp only [if_pos c3, if_pos c4, Option.bind_some]
theorem impl_first_ev (l : List Int) (hl : (l.length : Int) ≤ 1048576) (p0 p1 p2 p3 : Int) : Ev (fun k => impl_Pattern_firstCome.f k p0 p1 p2 p3 l) (p0, p1, p2, p3, fcome [] l) := by
  have h := impl_first_loop l hl p0 p1 p2 p3 l.length 0 [] [] (by simp) rfl (by omega) (by omega)
  refine Ev.congr (fun k => ?_) (by simpa using h)
  rfl
theorem both_FirstCome (fr a b c : Int) (l : List Int) (hl : (l.length : Int) ≤ 1048576) :
    ∃ r : Int × Int × Int × Int × List Int × Int, r.2.2.2.2.1.length ≤ l.length ∧ Ev (fun k => spec_FirstCome.f k fr a b c l) r ∧ Ev (fun k => impl_FirstCome.f k fr a b c l) r := by
  have q1 : Ev (fun k => spec_IsPattern.f k fr a b c l) (decide (Pat fr a b c l)) := ⟨l.length + 1, fun k hk => spec_IsPattern_eq fr a b c l hl (by omega)⟩
  have q2 := impl_IsPattern_eq fr a b c l
  by_cases h : Pat fr a b c l
  · rw [decide_eq_true h] at q1 q2
    refine ⟨(fr, a, b, c, fcome [] l, 0), by simp [fcome_len], ?_, ?_⟩
    · exact Ev.congr (fun k => rfl) (Ev.bind q1 (f := fun k t => if t = true then (spec_l18First.f k fr a b c l).bind fun u => some (u.1, u.2.1, u.2.2.1, u.2.2.2.1, u.2.2.2.2, 0) else some (0, 0, 0, 0, ([] : List Int), 1)) (by
        simp only [if_true]
        exact Ev.some_ (spec_first_ev l hl fr a b c) (fun u => (u.1, u.2.1, u.2.2.1, u.2.2.2.1, u.2.2.2.2, (0 : Int)))))
    · refine Ev.congr (fun k => ?_) (Ev.some_ (impl_first_ev l hl fr a b c) (fun u => (u.1, u.2.1, u.2.2.1, u.2.2.2.1, u.2.2.2.2, (0 : Int))))
      simp only [impl_FirstCome.f, q2, Option.bind_some, if_true]
  · rw [decide_eq_false h] at q1 q2
    refine ⟨(0, 0, 0, 0, [], 1), by simp, ?_, ?_⟩
    · exact Ev.congr (fun k => rfl) (Ev.bind q1 (f := fun k t => if t = true then (spec_l18First.f k fr a b c l).bind fun u => some (u.1, u.2.1, u.2.2.1, u.2.2.2.1, u.2.2.2.2, 0) else some (0, 0, 0, 0, ([] : List Int), 1)) (by
        simp only [Bool.false_eq_true, if_false]
        exact Ev.all fun _ => rfl))
    · refine Ev.all (fun k => ?_)
      simp only [impl_FirstCome.f, q2, Option.bind_some, Bool.false_eq_true, if_false]

end Go.Proofs.Yteeclbncpdafcaa.LA
