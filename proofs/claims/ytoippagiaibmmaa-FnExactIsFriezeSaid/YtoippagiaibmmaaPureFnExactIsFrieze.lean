/- FnExactIsFrieze: the program and the reference check a frieze alike, and its argument is not changed. -/
import Derived.Test.YtoippagiaibmmaaAid
import Derived.Test.YtoippagiaibmmaaLABasic
import Derived.Test.YtoippagiaibmmaaLALists
import Derived.Test.YtoippagiaibmmaaPAx1
import Derived.Test.YtoippagiaibmmaaPAx2
namespace Go.Proofs.Ytoippagiaibmmaa.Pure
open Go.RowKit Go.Proofs.Ytoippagiaibmmaa.PA Go.Proofs.YtoippagiaibmmaaW.PrintWords Go.Proofs.YtoippagiaibmmaaW.PrintLast Go.Proofs.Ytoippagiaibmmaa.Aid
open Go.Proofs.Ytoippagiaibmmaa.LA
set_option linter.unusedVariables false
set_option linter.unusedSimpArgs false

theorem FnExactIsFrieze : laws_FnExactIsFrieze.Pure := by
  intro h w l _ _ hl _
  refine ⟨1048580, ?_⟩
  unfold laws_FnExactIsFrieze.f laws_szFrieze.f
  rw [szInt64S_eq l _ (by omega) (by omega) hl]
  by_cases hb : (1048576 : Int) < l.length
  · simp [hb]
  · have hk : l.length < 1048580 := by omega
    have hl' : (l.length : Int) ≤ 1048576 := by omega
    have hno : ¬ (1048576 - (l.length : Int)) < 0 := by omega
    simp only [if_neg hb, Option.bind_some, if_neg hno, laws_toFrieze.f, toInt64S_eq l hl' hk]
    have e : spec_IsFrieze.f 1048580 h w l = impl_IsFrieze.f h w l ∧ ∃ b, impl_IsFrieze.f h w l = some b := by
      unfold spec_IsFrieze.f impl_IsFrieze.f
      simp only [l01In_eq, within_eq, l01Within_eq l 144 0 9 hl' hk, allWithin_eq, Option.bind_some]
      by_cases h1 : 1 ≤ h ∧ h ≤ 6
      · by_cases h2 : 1 ≤ w ∧ w ≤ 24
        · have x : 1 * 1 ≤ h * w := Int.mul_le_mul h1.1 h2.1 (by omega) (by omega)
          have y : h * w ≤ 6 * 24 := Int.mul_le_mul h1.2 h2.2 (by omega) (by omega)
          rw [w64s (x := h * w) (by omega) (by omega)]
          by_cases h3 : (l.length : Int) = h * w
          · have h4 : (l.length : Int) ≤ 144 := by omega
            simp [h1, h2, h3]
            omega
          · simp [h1, h2, h3]
        · simp [h1, h2]
      · simp [h1]
    obtain ⟨e1, b, e2⟩ := e
    rw [e1, e2]
    simp only [Option.bind_some, bne_self_eq_false, Bool.false_eq_true, if_false]
    unfold laws_eqFrieze.f
    rw [eqInt64S_eq l l hl' hk]
    simp

end Go.Proofs.Ytoippagiaibmmaa.Pure
