/- Plain lemmas on comparing patterns. -/
import Derived.Test.YteeclbncpdafcaaAid
import Derived.Test.YteeclbncpdafcaaPAx0
import Derived.Test.YteeclbncpdafcaaLAAdEv
import Derived.Test.YteeclbncpdafcaaLABLists
import Derived.Test.YteeclbncpdafcaaLAEPattern
import Derived.Test.YteeclbncpdafcaaPAx2
import Derived.Test.YteeclbncpdafcaaPAx29
import Derived.Test.YteeclbncpdafcaaPAx30
namespace Go.Proofs.Yteeclbncpdafcaa.LA
open Go.RowKit Go.Proofs.Yteeclbncpdafcaa.PA Go.Proofs.YteeclbncpdafcaaW.PrintWords Go.Proofs.YteeclbncpdafcaaW.PrintLast Go.Proofs.Yteeclbncpdafcaa.Aid
set_option linter.unusedVariables false
set_option linter.unusedSimpArgs false

/-- Two lists in the order of a dictionary: -1, 0 or 1. -/
def cmpL : List Int → List Int → Int
  | [], [] => 0
  | [], _ :: _ => -1
  | _ :: _, [] => 1
  | a :: s, b :: t => if a = b then cmpL s t else if a < b then -1 else 1
theorem cmpL_range : ∀ s t : List Int, cmpL s t = -1 ∨ cmpL s t = 0 ∨ cmpL s t = 1
  | [], [] => by simp [cmpL]
  | [], _ :: _ => by simp [cmpL]
  | _ :: _, [] => by simp [cmpL]
  | a :: s, b :: t => by
    have := cmpL_range s t
    unfold cmpL
    by_cases h : a = b
    · rw [if_pos h]; exact this
    · rw [if_neg h]
      by_cases h2 : a < b
      · rw [if_pos h2]; exact Or.inl rfl
      · rw [if_neg h2]; exact Or.inr (Or.inr rfl)
theorem cmpL_neg : ∀ s t : List Int, cmpL t s = - cmpL s t
  | [], [] => by simp [cmpL]
  | [], _ :: _ => by simp [cmpL]
  | _ :: _, [] => by simp [cmpL]
  | a :: s, b :: t => by
    have ih := cmpL_neg s t
    unfold cmpL
    by_cases h : a = b
    · rw [if_pos h, if_pos h.symm]; exact ih
    · rw [if_neg h, if_neg (fun e => h e.symm)]
      by_cases h2 : a < b
      · rw [if_pos h2, if_neg (by omega)]; rfl
      · rw [if_neg h2, if_pos (by omega)]
theorem cmpL_append : ∀ s t u v : List Int, s.length = t.length → cmpL (s ++ u) (t ++ v) = if cmpL s t = 0 then cmpL u v else cmpL s t
  | [], [], u, v, _ => by simp [cmpL]
  | [], _ :: _, _, _, h => by simp at h
  | _ :: _, [], _, _, h => by simp at h
  | a :: s, b :: t, u, v, h => by
    have ih := cmpL_append s t u v (by simpa using h)
    rw [List.cons_append, List.cons_append, cmpL, cmpL]
    by_cases h1 : a = b
    · rw [if_pos h1, if_pos h1]; exact ih
    · rw [if_neg h1, if_neg h1]
      by_cases h2 : a < b
      · rw [if_pos h2]; rfl
      · rw [if_neg h2]; rfl
theorem drop_end (s : List Int) (i : Nat) (h : s.length ≤ i) : s.drop i = [] := List.drop_eq_nil_of_le h
theorem getD_lt (l : List Int) (i : Nat) (h : i < l.length) : rd l (i : Int) = l[i] := by rw [rd_nat]; simp [List.getD, h]
theorem less_ev (s t : List Int) (hs : (s.length : Int) ≤ 10000000) (d : Nat) : ∀ i : Nat, i ≤ s.length → i ≤ t.length → s.length - i = d →
    Ev (fun k => spec_l01LessList.l0 k s t i) (decide (cmpL (s.drop i) (t.drop i) = -1)) := by
  induction d with
  | zero =>
    intro i hi hi2 hd
    have hs0 : s.drop i = [] := drop_end s i (by omega)
    have h1 : Ev (fun k => spec_l01LessList.j1 k s t i false) (decide (cmpL (s.drop i) (t.drop i) = -1)) := by
      refine Ev.one (fun k => ?_)
      simp only [spec_l01LessList.j1, Bool.false_eq_true, if_false]
      rw [hs0]
      congr 1
      apply decide_eq_decide.2
      by_cases h : i < t.length
      · rw [List.drop_eq_getElem_cons h]; simp [cmpL]; omega
      · rw [drop_end t i (by omega)]; simp [cmpL]; omega
    refine Ev.step (fun k => ?_) h1
    simp only [spec_l01LessList.l0]
    rw [if_neg (by omega)]
  | succ d ih =>
    intro i hi hi2 hd
    have h1 : i < s.length := by omega
    have c1 : (i : Int) < (s.length : Int) := by omega
    have c2 : (0 : Int) ≤ (i : Int) := by omega
    have hw : wrap64 ((i : Int) + 1) = ((i + 1 : Nat) : Int) := by rw [w64s (by omega) (by omega)]; omega
    by_cases h2 : i < t.length
    · have c3 : (i : Int) < (t.length : Int) := by omega
      have e1 := getD_lt s i h1
      have e2 := getD_lt t i h2
      have key : Ev (fun k => spec_l01LessList.j1 k s t i true) (decide (cmpL (s.drop i) (t.drop i) = -1)) := by
        rw [List.drop_eq_getElem_cons h1, List.drop_eq_getElem_cons h2, cmpL]
        by_cases g : s[i] = t[i]
        · rw [if_pos g]
          refine Ev.step (fun k => ?_) (ih (i + 1) (by omega) (by omega) (by omega))
          simp only [spec_l01LessList.j1, if_true]
          rw [if_pos c2, if_pos c1, if_pos c3, e1, e2, if_pos g, hw]
        · rw [if_neg g]
          refine Ev.one (fun k => ?_)
          simp only [spec_l01LessList.j1, if_true]
          rw [if_pos c2, if_pos c1, if_pos c3, e1, e2, if_neg g]
          congr 1
          apply decide_eq_decide.2
          by_cases g2 : s[i] < t[i]
          · simp [g2]
          · simp [g2]
      refine Ev.step (fun k => ?_) key
      simp only [spec_l01LessList.l0]
      rw [if_pos c1, decide_eq_true c3]
    · have c3 : ¬ (i : Int) < (t.length : Int) := by omega
      have key : Ev (fun k => spec_l01LessList.j1 k s t i false) (decide (cmpL (s.drop i) (t.drop i) = -1)) := by
        refine Ev.one (fun k => ?_)
        simp only [spec_l01LessList.j1, Bool.false_eq_true, if_false]
        rw [List.drop_eq_getElem_cons h1, drop_end t i (by omega), cmpL]
        congr 1
        apply decide_eq_decide.2
        simp; omega
      refine Ev.step (fun k => ?_) key
      simp only [spec_l01LessList.l0]
      rw [if_pos c1, decide_eq_false c3]
theorem less_ev' (s t : List Int) (hs : (s.length : Int) ≤ 10000000) : Ev (fun k => spec_l01LessList.f k s t) (decide (cmpL s t = -1)) := by
  simpa [spec_l01LessList.f] using less_ev s t hs s.length 0 (by omega) (by omega) (by omega)
theorem numbers_ev (s t : List Int) (hst : s.length = t.length) (hs : (s.length : Int) ≤ 10000000) (d : Nat) : ∀ i : Nat, i ≤ s.length → s.length - i = d →
    Ev (fun k => impl_compareNumbers.l0 k s t (s.length : Int) i) (cmpL (s.drop i) (t.drop i)) := by
  induction d with
  | zero =>
    intro i hi hd
    rw [drop_end s i (by omega), drop_end t i (by omega)]
    refine Ev.one (fun k => ?_)
    simp only [impl_compareNumbers.l0]
    rw [if_neg (by omega)]; rfl
  | succ d ih =>
    intro i hi hd
    have h1 : i < s.length := by omega
    have h2 : i < t.length := by omega
    have c1 : (i : Int) < (s.length : Int) := by omega
    have c2 : (0 : Int) ≤ (i : Int) := by omega
    have c3 : (i : Int) < (t.length : Int) := by omega
    have hw : wrap64 ((i : Int) + 1) = ((i + 1 : Nat) : Int) := by rw [w64s (by omega) (by omega)]; omega
    have e1 := getD_lt s i h1
    have e2 := getD_lt t i h2
    rw [List.drop_eq_getElem_cons h1, List.drop_eq_getElem_cons h2, cmpL]
    by_cases g : s[i] = t[i]
    · rw [if_pos g]
      refine Ev.step (fun k => ?_) (ih (i + 1) (by omega) (by omega))
      simp only [impl_compareNumbers.l0]
      rw [if_pos c1, if_pos c2, if_pos c1, if_pos c3, e1, e2, if_pos g, hw]
    · rw [if_neg g]
      refine Ev.one (fun k => ?_)
      simp only [impl_compareNumbers.l0]
      rw [if_pos c1, if_pos c2, if_pos c1, if_pos c3, e1, e2, if_neg g]
      by_cases g2 : s[i] < t[i]
      · rw [if_pos g2, if_pos g2]
      · rw [if_neg g2, if_neg g2]
theorem numbers_ev' (s t : List Int) (hst : s.length = t.length) (hs : (s.length : Int) ≤ 10000000) : Ev (fun k => impl_compareNumbers.f k s t) (cmpL s t) := by
  simpa [impl_compareNumbers.f] using numbers_ev s t hst hs s.length 0 (by omega) (by omega)
theorem cmp_eq (a b : Int) : cmp_Compare_int64.f a b = some (if a = b then 0 else if a < b then -1 else 1) := by
  simp only [cmp_Compare_int64.f, cmp_isNaN_int64.f, bne_self_eq_false, Option.bind_some, Bool.false_eq_true, if_false]
  by_cases h : a = b
  · subst h; rw [if_neg (by omega), if_neg (by omega), if_pos rfl]
  · rw [if_neg h]
    by_cases h2 : a < b
    · rw [if_pos h2, if_pos h2]
    · rw [if_neg h2, if_neg h2, if_pos (by omega)]
theorem compare_ev (s t : List Int) (hs : (s.length : Int) ≤ 10000000) (d : Nat) : ∀ i : Nat, i ≤ s.length → i ≤ t.length → s.length - i = d →
    Ev (fun k => slices_Compare_int64_int64.l0 k s t s (s.length : Int) i) (cmpL (s.drop i) (t.drop i)) := by
  induction d with
  | zero =>
    intro i hi hi2 hd
    rw [drop_end s i (by omega)]
    refine Ev.one (fun k => ?_)
    simp only [slices_Compare_int64_int64.l0]
    rw [if_neg (by omega)]
    by_cases h : i < t.length
    · rw [List.drop_eq_getElem_cons h, if_pos (by omega)]; rfl
    · rw [drop_end t i (by omega), if_neg (by omega)]; rfl
  | succ d ih =>
    intro i hi hi2 hd
    have h1 : i < s.length := by omega
    have c1 : (i : Int) < (s.length : Int) := by omega
    have c2 : (0 : Int) ≤ (i : Int) := by omega
    have hw : wrap64 ((i : Int) + 1) = ((i + 1 : Nat) : Int) := by rw [w64s (by omega) (by omega)]; omega
    by_cases h2 : i < t.length
    · have c3 : (i : Int) < (t.length : Int) := by omega
      have c4 : ¬ (i : Int) ≥ (t.length : Int) := by omega
      have e1 := getD_lt s i h1
      have e2 := getD_lt t i h2
      rw [List.drop_eq_getElem_cons h1, List.drop_eq_getElem_cons h2, cmpL]
      by_cases g : s[i] = t[i]
      · rw [if_pos g]
        refine Ev.step (fun k => ?_) (ih (i + 1) (by omega) (by omega) (by omega))
        simp only [slices_Compare_int64_int64.l0]
        rw [if_pos c1, if_pos c2, if_pos c1, if_neg c4, if_pos c3, e1, e2, cmp_eq, if_pos g]
        simp only [Option.bind_some, if_true, hw]
      · rw [if_neg g]
        refine Ev.one (fun k => ?_)
        simp only [slices_Compare_int64_int64.l0]
        rw [if_pos c1, if_pos c2, if_pos c1, if_neg c4, if_pos c3, e1, e2, cmp_eq, if_neg g]
        simp only [Option.bind_some]
        by_cases g2 : s[i] < t[i]
        · rw [if_pos g2, if_neg (by omega)]
        · rw [if_neg g2, if_neg (by omega)]
    · rw [List.drop_eq_getElem_cons h1, drop_end t i (by omega), cmpL]
      refine Ev.one (fun k => ?_)
      simp only [slices_Compare_int64_int64.l0]
      rw [if_pos c1, if_pos c2, if_pos c1, if_pos (by omega)]
theorem compare_ev' (s t : List Int) (hs : (s.length : Int) ≤ 10000000) : Ev (fun k => slices_Compare_int64_int64.f k s t) (cmpL s t) := by
  simpa [slices_Compare_int64_int64.f] using compare_ev s t hs s.length 0 (by omega) (by omega) (by omega)
theorem impl_cmp_ev (fr a b c : Int) (l : List Int) (fr' a' b' c' : Int) (l' : List Int) (hl : (l.length : Int) ≤ 1048576) :
    Ev (fun k => impl_comparePatterns.f k fr a b c l fr' a' b' c' l') (cmpL ([fr, a, b, c] ++ l) ([fr', a', b', c'] ++ l')) := by
  have e : cmpL ([fr, a, b, c] ++ l) ([fr', a', b', c'] ++ l') = if fr = fr' then cmpL ([a, b, c] ++ l) ([a', b', c'] ++ l') else if fr < fr' then -1 else 1 := rfl
  rw [e]
  by_cases g : fr = fr'
  · rw [if_pos g, cmpL_append [a, b, c] [a', b', c'] l l' rfl]
    have h1 := numbers_ev' [a, b, c] [a', b', c'] rfl (by simp)
    have h2 := compare_ev' l l' (by omega)
    have h3 : Ev (fun k => impl_compareLattices.f k a b c a' b' c') (cmpL [a, b, c] [a', b', c']) := Ev.congr (fun k => rfl) (Ev.some_ h1 (fun t => t))
    have h4 : Ev (fun k => if cmpL [a, b, c] [a', b', c'] = 0 then (slices_Compare_int64_int64.f k l l').bind (fun t => some t) else some (cmpL [a, b, c] [a', b', c'])) (if cmpL [a, b, c] [a', b', c'] = 0 then cmpL l l' else cmpL [a, b, c] [a', b', c']) := by
      by_cases q : cmpL [a, b, c] [a', b', c'] = 0
      · simp only [if_pos q]; exact Ev.some_ h2 (fun t => t)
      · simp only [if_neg q]; exact Ev.all fun _ => rfl
    refine Ev.congr (fun k => ?_) (Ev.bind h3 (f := fun k t => if t = 0 then (slices_Compare_int64_int64.f k l l').bind (fun t => some t) else some t) h4)
    simp only [impl_comparePatterns.f, if_pos g]
  · rw [if_neg g]
    have h1 := numbers_ev' [fr] [fr'] rfl (by simp)
    have e1 : cmpL [fr] [fr'] = if fr < fr' then -1 else 1 := by rw [cmpL, if_neg g]
    rw [e1] at h1
    refine Ev.congr (fun k => ?_) (Ev.some_ h1 (fun t => t))
    simp only [impl_comparePatterns.f, if_neg g]
theorem spec_less_ev (fr a b c : Int) (l : List Int) (fr' a' b' c' : Int) (l' : List Int) (hl : (l.length : Int) ≤ 1048576) (hl' : (l'.length : Int) ≤ 1048576) :
    Ev (fun k => spec_l18Less.f k fr a b c l fr' a' b' c' l') (decide (cmpL ([fr, a, b, c] ++ l) ([fr', a', b', c'] ++ l') = -1)) := by
  have h := less_ev' ([fr, a, b, c] ++ l) ([fr', a', b', c'] ++ l') (by simp; omega)
  refine Ev.congr (fun k => ?_) (Ev.some_ h (fun t => t))
  simp only [spec_l18Less.f, Option.bind_some]
  rw [if_pos (by simp; omega), if_pos (by simp; omega)]
theorem both_ComparePatterns (fr a b c : Int) (l : List Int) (fr' a' b' c' : Int) (l' : List Int) (hl : (l.length : Int) ≤ 1048576) (hl' : (l'.length : Int) ≤ 1048576) :
    ∃ r, Ev (fun k => spec_ComparePatterns.f k fr a b c l fr' a' b' c' l') r ∧ Ev (fun k => impl_ComparePatterns.f k fr a b c l fr' a' b' c' l') r := by
  have q1 : Ev (fun k => spec_IsPattern.f k fr a b c l) (decide (Pat fr a b c l)) := ⟨l.length + 1, fun k hk => spec_IsPattern_eq fr a b c l hl (by omega)⟩
  have q1' : Ev (fun k => spec_IsPattern.f k fr' a' b' c' l') (decide (Pat fr' a' b' c' l')) := ⟨l'.length + 1, fun k hk => spec_IsPattern_eq fr' a' b' c' l' hl' (by omega)⟩
  have q2 := impl_IsPattern_eq fr a b c l
  have q2' := impl_IsPattern_eq fr' a' b' c' l'
  have bad : Ev (fun k => spec_ComparePatterns.j0 k true fr a b c l fr' a' b' c' l') (0, 1) := Ev.one fun k => by simp only [spec_ComparePatterns.j0, if_true]
  by_cases h : Pat fr a b c l
  · rw [decide_eq_true h] at q1 q2
    by_cases h' : Pat fr' a' b' c' l'
    · rw [decide_eq_true h'] at q1' q2'
      refine ⟨(cmpL ([fr, a, b, c] ++ l) ([fr', a', b', c'] ++ l'), 0), ?_, ?_⟩
      · have k1 := spec_less_ev fr a b c l fr' a' b' c' l' hl hl'
        have k2 := spec_less_ev fr' a' b' c' l' fr a b c l hl' hl
        rw [cmpL_neg] at k2
        have hr := cmpL_range ([fr, a, b, c] ++ l) ([fr', a', b', c'] ++ l')
        generalize cmpL ([fr, a, b, c] ++ l) ([fr', a', b', c'] ++ l') = z at k1 k2 hr ⊢
        have key : Ev (fun k => (spec_l18Less.f k fr a b c l fr' a' b' c' l').bind fun t => if t = true then some ((-1 : Int), (0 : Int)) else (spec_l18Less.f k fr' a' b' c' l' fr a b c l).bind fun t => if t = true then some ((1 : Int), (0 : Int)) else some ((0 : Int), (0 : Int))) (z, 0) := by
          refine Ev.bind k1 (f := fun k t => if t = true then some ((-1 : Int), (0 : Int)) else (spec_l18Less.f k fr' a' b' c' l' fr a b c l).bind fun t => if t = true then some ((1 : Int), (0 : Int)) else some ((0 : Int), (0 : Int))) ?_
          rcases hr with rfl | rfl | rfl
          · exact Ev.all fun _ => rfl
          · refine Ev.congr (fun k => ?_) (Ev.bind k2 (f := fun k t => if t = true then some ((1 : Int), (0 : Int)) else some ((0 : Int), (0 : Int))) (r := (0, 0)) (Ev.all fun _ => rfl))
            simp
          · refine Ev.congr (fun k => ?_) (Ev.bind k2 (f := fun k t => if t = true then some ((1 : Int), (0 : Int)) else some ((0 : Int), (0 : Int))) (r := (1, 0)) (Ev.all fun _ => rfl))
            simp
        have j : Ev (fun k => spec_ComparePatterns.j0 k false fr a b c l fr' a' b' c' l') (z, 0) := Ev.step (fun k => by simp only [spec_ComparePatterns.j0, Bool.false_eq_true, if_false]) key
        refine Ev.congr (fun k => rfl) (Ev.bind q1 (f := fun k t => if t = true then (spec_IsPattern.f k fr' a' b' c' l').bind (fun t724 => spec_ComparePatterns.j0 k (!t724) fr a b c l fr' a' b' c' l') else spec_ComparePatterns.j0 k true fr a b c l fr' a' b' c' l') ?_)
        simp only [if_true]
        exact Ev.bind q1' (f := fun k t => spec_ComparePatterns.j0 k (!t) fr a b c l fr' a' b' c' l') j
      · refine Ev.congr (fun k => ?_) (Ev.some_ (impl_cmp_ev fr a b c l fr' a' b' c' l' hl) (fun t => (t, (0 : Int))))
        simp only [impl_ComparePatterns.f, q2, q2', Option.bind_some, if_true]
    · rw [decide_eq_false h'] at q1' q2'
      refine ⟨(0, 1), ?_, ?_⟩
      · refine Ev.congr (fun k => rfl) (Ev.bind q1 (f := fun k t => if t = true then (spec_IsPattern.f k fr' a' b' c' l').bind (fun t724 => spec_ComparePatterns.j0 k (!t724) fr a b c l fr' a' b' c' l') else spec_ComparePatterns.j0 k true fr a b c l fr' a' b' c' l') ?_)
        simp only [if_true]
        exact Ev.bind q1' (f := fun k t => spec_ComparePatterns.j0 k (!t) fr a b c l fr' a' b' c' l') bad
      · refine Ev.all (fun k => ?_)
        simp only [impl_ComparePatterns.f, q2, q2', Option.bind_some, if_true, Bool.false_eq_true, if_false]
  · rw [decide_eq_false h] at q1 q2
    refine ⟨(0, 1), ?_, ?_⟩
    · refine Ev.congr (fun k => rfl) (Ev.bind q1 (f := fun k t => if t = true then (spec_IsPattern.f k fr' a' b' c' l').bind (fun t724 => spec_ComparePatterns.j0 k (!t724) fr a b c l fr' a' b' c' l') else spec_ComparePatterns.j0 k true fr a b c l fr' a' b' c' l') ?_)
      simp only [Bool.false_eq_true, if_false]
      exact bad
    · refine Ev.all (fun k => ?_)
      simp only [impl_ComparePatterns.f, q2, Option.bind_some, Bool.false_eq_true, if_false]

end Go.Proofs.Yteeclbncpdafcaa.LA
