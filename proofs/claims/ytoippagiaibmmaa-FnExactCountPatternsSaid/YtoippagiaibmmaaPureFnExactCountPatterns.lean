/- FnExactCountPatterns: the program's count of patterns, and its code, are the reference's. -/
import Derived.Test.YtoippagiaibmmaaAid
import Derived.Test.YtoippagiaibmmaaLABasic
import Derived.Test.YtoippagiaibmmaaLAPower
import Derived.Test.YtoippagiaibmmaaPAx5
namespace Go.Proofs.Ytoippagiaibmmaa.Pure
open Go.RowKit Go.Proofs.Ytoippagiaibmmaa.PA Go.Proofs.YtoippagiaibmmaaW.PrintWords Go.Proofs.YtoippagiaibmmaaW.PrintLast Go.Proofs.Ytoippagiaibmmaa.Aid
open Go.Proofs.Ytoippagiaibmmaa.LA
set_option linter.unusedVariables false
set_option linter.unusedSimpArgs false

theorem FnExactCountPatterns : laws_FnExactCountPatterns.Pure := by
  intro fr a b c m _ _ _ _ _
  refine ⟨1001, ?_⟩
  unfold laws_FnExactCountPatterns.f
  simp only [toLattice_eq, Option.bind_some]
  rw [spec_CountPatterns_eq _ _ _ _ _ (by omega), impl_CountPatterns_eq _ _ _ _ _ (by omega)]
  simp

end Go.Proofs.Ytoippagiaibmmaa.Pure
