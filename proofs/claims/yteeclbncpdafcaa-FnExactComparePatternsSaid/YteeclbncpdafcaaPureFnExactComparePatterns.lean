/- FnExactComparePatterns: the program and the reference compare two patterns alike; the arguments stay. -/
import Derived.Test.YteeclbncpdafcaaAid
import Derived.Test.YteeclbncpdafcaaLAEPattern
import Derived.Test.YteeclbncpdafcaaLAMCompare
import Derived.Test.YteeclbncpdafcaaPAx29
import Derived.Test.YteeclbncpdafcaaPAx30
import Derived.Test.YteeclbncpdafcaaPAx31
namespace Go.Proofs.Yteeclbncpdafcaa.Pure
open Go.RowKit Go.Proofs.Yteeclbncpdafcaa.PA Go.Proofs.YteeclbncpdafcaaW.PrintWords Go.Proofs.YteeclbncpdafcaaW.PrintLast Go.Proofs.Yteeclbncpdafcaa.Aid
open Go.Proofs.Yteeclbncpdafcaa.LA
set_option linter.unusedVariables false
set_option linter.unusedSimpArgs false

theorem FnExactComparePatterns : laws_FnExactComparePatterns.Pure := by
  intro fr a b c l fr' a' b' c' l' _ _ _ _ hl _ _ _ _ _ hl' _
  by_cases hb : (1048576 : Int) < l.length
  · refine ⟨1, ?_⟩
    unfold laws_FnExactComparePatterns.f
    rw [szPattern_eq _ _ _ _ l _ (by omega) (by omega) hl]
    simp [hb]
  · by_cases hb2 : (1048576 - (l.length : Int)) < l'.length
    · refine ⟨1, ?_⟩
      unfold laws_FnExactComparePatterns.f
      rw [szPattern_eq _ _ _ _ l _ (by omega) (by omega) hl, if_neg hb]
      simp only [Option.bind_some]
      rw [if_neg (by omega), szPattern_eq _ _ _ _ l' _ (by omega) (by omega) hl', if_pos hb2]
      rfl
    · have h0 : (l.length : Int) ≤ 1048576 := by omega
      have h0' : (l'.length : Int) ≤ 1048576 := by omega
      obtain ⟨r, ⟨K1, h1'⟩, ⟨K2, h2'⟩⟩ := both_ComparePatterns fr a b c l fr' a' b' c' l' h0 h0'
      have h1 : ∀ k, K1 ≤ k → spec_ComparePatterns.f k fr a b c l fr' a' b' c' l' = some r := h1'
      have h2 : ∀ k, K2 ≤ k → impl_ComparePatterns.f k fr a b c l fr' a' b' c' l' = some r := h2'
      obtain ⟨m, hm⟩ : ∃ m : Nat, m = 1048580 + K1 + K2 := ⟨_, rfl⟩
      refine ⟨m + 4, ?_⟩
      unfold laws_FnExactComparePatterns.f
      rw [szPattern_eq _ _ _ _ l _ (by omega) (by omega) hl, if_neg hb]
      simp only [Option.bind_some]
      rw [if_neg (by omega), szPattern_eq _ _ _ _ l' _ (by omega) (by omega) hl', if_neg hb2]
      have hno : ¬ (1048576 - (l.length : Int) - l'.length) < 0 := by omega
      have s1 := h1 (m + 4) (by omega)
      have s2 := h2 (m + 4) (by omega)
      have t4 := toPattern_eq fr a b c l h0 (k := m + 4) (by omega)
      have t3 := toPattern_eq fr a b c l h0 (k := m + 3) (by omega)
      have u4 := toPattern_eq fr' a' b' c' l' h0' (k := m + 4) (by omega)
      have u3 := toPattern_eq fr' a' b' c' l' h0' (k := m + 3) (by omega)
      have o3 := eqPattern_eq fr a b c l fr a b c l h0 (k := m + 3) (by omega)
      have o4 := eqPattern_eq fr' a' b' c' l' fr' a' b' c' l' h0' (k := m + 3) (by omega)
      simp only [Option.bind_some, if_neg hno, t4, t3, u4, u3, s1, s2, o3, o4, decide_true, if_true, bne_self_eq_false, laws_FnExactComparePatterns.j0, Bool.false_eq_true, if_false, and_self]

end Go.Proofs.Yteeclbncpdafcaa.Pure
