/- Plain lemmas on recolouring. -/
import Derived.Test.YteeclbncpdafcaaAid
import Derived.Test.YteeclbncpdafcaaPAx0
import Derived.Test.YteeclbncpdafcaaLABLists
import Derived.Test.YteeclbncpdafcaaLAEPattern
import Derived.Test.YteeclbncpdafcaaPAx20
import Derived.Test.YteeclbncpdafcaaPAx21
namespace Go.Proofs.Yteeclbncpdafcaa.LA
open Go.RowKit Go.Proofs.Yteeclbncpdafcaa.PA Go.Proofs.YteeclbncpdafcaaW.PrintWords Go.Proofs.YteeclbncpdafcaaW.PrintLast Go.Proofs.Yteeclbncpdafcaa.Aid
set_option linter.unusedVariables false
set_option linter.unusedSimpArgs false

theorem spec_recolour_loop (q l : List Int) (hq : q.length = 10) (hl : (l.length : Int) ≤ 64) (hv : ∀ x ∈ l, 0 ≤ x ∧ x ≤ 9) (fr a b c : Int) (d : Nat) : ∀ (k i : Nat), i ≤ l.length → l.length - i = d → d < k →
    spec_Recolour.l0 k q i fr a b c l fr a b c ((l.take i).map (rd q)) = some (fr, a, b, c, l.map (rd q), 0) := by
  induction d with
  | zero =>
    intro k i hi hd hk
    obtain ⟨k, rfl⟩ := succ_of_lt hk
    obtain rfl : i = l.length := by omega
    simp only [spec_Recolour.l0]; rw [if_neg (by omega), List.take_length]
  | succ d ih =>
    intro k i hi hd hk
    obtain ⟨k, rfl⟩ := succ_of_lt hk
    have hlt : (i : Int) < (l.length : Int) := by omega
    have hx := hv _ (rd_mem l i (by omega) hlt)
    have hw : wrap64 ((i : Int) + 1) = ((i + 1 : Nat) : Int) := by rw [w64s (by omega) (by omega)]; omega
    have hi' : i < l.length := by omega
    simp only [spec_Recolour.l0]
    rw [if_pos hlt, if_pos (by omega), if_pos hx.1, if_pos (by omega), if_pos (by simp; omega), hw]
    have := ih k (i + 1) (by omega) (by omega) (by omega)
    rw [List.take_succ_eq_append_getElem hi', List.map_append] at this
    have e : rd l (i : Int) = l[i] := by rw [rd_nat]; simp [List.getD, hi']
    rw [e]; exact this
theorem impl_recolour_loop (q l : List Int) (hq : q.length = 10) (hl : (l.length : Int) ≤ 64) (hv : ∀ x ∈ l, 0 ≤ x ∧ x ≤ 9) (fr a b c : Int) (d : Nat) : ∀ (k i : Nat), i ≤ l.length → l.length - i = d → d < k →
    impl_Recolour.l0 k q l (l.length : Int) i fr a b c ((l.take i).map (rd q)) = some (fr, a, b, c, l.map (rd q), 0) := by
  induction d with
  | zero =>
    intro k i hi hd hk
    obtain ⟨k, rfl⟩ := succ_of_lt hk
    obtain rfl : i = l.length := by omega
    simp only [impl_Recolour.l0]; rw [if_neg (by omega), List.take_length]
  | succ d ih =>
    intro k i hi hd hk
    obtain ⟨k, rfl⟩ := succ_of_lt hk
    have hlt : (i : Int) < (l.length : Int) := by omega
    have hx := hv _ (rd_mem l i (by omega) hlt)
    have hw : wrap64 ((i : Int) + 1) = ((i + 1 : Nat) : Int) := by rw [w64s (by omega) (by omega)]; omega
    have hi' : i < l.length := by omega
    simp only [impl_Recolour.l0]
    rw [if_pos hlt, if_pos (by omega), if_pos hlt, if_pos hx.1, if_pos (by omega), if_pos (by simp; omega), hw]
    have := ih k (i + 1) (by omega) (by omega) (by omega)
    rw [List.take_succ_eq_append_getElem hi', List.map_append] at this
    have e : rd l (i : Int) = l[i] := by rw [rd_nat]; simp [List.getD, hi']
    rw [e]; exact this
theorem both_Recolour (fr a b c : Int) (l q : List Int) (hl : (l.length : Int) ≤ 1048576) (hq : (q.length : Int) ≤ 1048576) {k : Nat} (hk : l.length < k) (hk2 : q.length < k) :
    ∃ r, spec_Recolour.f (k + 1) fr a b c l q = some r ∧ impl_Recolour.f (k + 1) fr a b c l q = some r ∧ (r.2.2.2.2.1.length : Int) ≤ 64 := by
  unfold spec_Recolour.f impl_Recolour.f
  rw [spec_IsPattern_eq _ _ _ _ l hl (by omega), impl_IsPattern_eq]
  simp only [Option.bind_some, impl_Recolour.j0]
  by_cases h : Pat fr a b c l
  · have hp : decide (Pat fr a b c l) = true := decide_eq_true h
    simp only [hp, if_true]
    by_cases h2 : (q.length : Int) = 10
    · simp only [if_pos h2, l01Within_eq q 10 0 9 hq (show q.length < k + 1 by omega), allWithin_eq, Option.bind_some]
      by_cases h3 : ∀ x ∈ q, 0 ≤ x ∧ x ≤ 9
      · have e1 : decide ((∀ x ∈ q, 0 ≤ x ∧ x ≤ 9) ∧ (q.length : Int) ≤ 10) = true := decide_eq_true ⟨h3, by omega⟩
        have e2 : decide (∀ x ∈ q, 0 ≤ x ∧ x ≤ 9) = true := decide_eq_true h3
        rw [e1, e2]
        simp only [if_true, Bool.not_true, Bool.false_eq_true, if_false]
        exact ⟨(fr, a, b, c, l.map (rd q), 0), spec_recolour_loop q l (by omega) h.len h.2.2 fr a b c l.length (k + 1) 0 (by omega) (by omega) (by omega),
          impl_recolour_loop q l (by omega) h.len h.2.2 fr a b c l.length k 0 (by omega) (by omega) (by omega), by simpa using h.len⟩
      · have e1 : decide ((∀ x ∈ q, 0 ≤ x ∧ x ≤ 9) ∧ (q.length : Int) ≤ 10) = false := decide_eq_false (fun x => h3 x.1)
        have e2 : decide (∀ x ∈ q, 0 ≤ x ∧ x ≤ 9) = false := decide_eq_false h3
        rw [e1, e2]
        exact ⟨(0, 0, 0, 0, [], 2), by simp, by simp, by simp⟩
    · simp only [if_neg h2, if_true]
      exact ⟨(0, 0, 0, 0, [], 2), rfl, rfl, by simp⟩
  · have hp : decide (Pat fr a b c l) = false := decide_eq_false h
    simp only [hp, Bool.false_eq_true, if_false]
    exact ⟨(0, 0, 0, 0, [], 1), rfl, rfl, by simp⟩

end Go.Proofs.Yteeclbncpdafcaa.LA
