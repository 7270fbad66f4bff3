/- FnExactGroupNames: both lists of names are the same seventeen words; marking one leaves later ones alone. -/
import Derived.Test.YtoippagiaibmmaaPFnExactGroupNamesx1
namespace Go.Proofs.Ytoippagiaibmmaa.Pure
open Go.RowKit Go.Proofs.Ytoippagiaibmmaa.PFnExactGroupNames Go.Proofs.YtoippagiaibmmaaW.PrintWords Go.Proofs.YtoippagiaibmmaaW.PrintLast

theorem FnExactGroupNames : laws_FnExactGroupNames.Pure := by
  refine ⟨40, ?_⟩
  decide +kernel

end Go.Proofs.Ytoippagiaibmmaa.Pure
