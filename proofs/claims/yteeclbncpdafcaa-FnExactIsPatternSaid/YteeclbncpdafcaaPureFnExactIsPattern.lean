/- FnExactIsPattern: the program and the reference check a pattern alike, and its argument is not changed. -/
import Derived.Test.YteeclbncpdafcaaAid
import Derived.Test.YteeclbncpdafcaaLAEPattern
import Derived.Test.YteeclbncpdafcaaPAx5
namespace Go.Proofs.Yteeclbncpdafcaa.Pure
open Go.RowKit Go.Proofs.Yteeclbncpdafcaa.PA Go.Proofs.YteeclbncpdafcaaW.PrintWords Go.Proofs.YteeclbncpdafcaaW.PrintLast Go.Proofs.Yteeclbncpdafcaa.Aid
open Go.Proofs.Yteeclbncpdafcaa.LA
set_option linter.unusedVariables false
set_option linter.unusedSimpArgs false

theorem FnExactIsPattern : laws_FnExactIsPattern.Pure := by
  intro fr a b c l _ _ _ _ hl _
  refine ⟨1048580, ?_⟩
  unfold laws_FnExactIsPattern.f
  rw [szPattern_eq _ _ _ _ l _ (by omega) (by omega) hl]
  by_cases hb : (1048576 : Int) < l.length
  · simp [hb]
  · have hk : l.length < 1048580 := by omega
    have hl' : (l.length : Int) ≤ 1048576 := by omega
    have hno : ¬ (1048576 - (l.length : Int)) < 0 := by omega
    simp only [if_neg hb, Option.bind_some, if_neg hno, toPattern_eq _ _ _ _ l hl' hk, spec_IsPattern_eq _ _ _ _ l hl' hk, impl_IsPattern_eq, eqPattern_eq _ _ _ _ l _ _ _ _ l hl' hk]
    simp

end Go.Proofs.Yteeclbncpdafcaa.Pure
