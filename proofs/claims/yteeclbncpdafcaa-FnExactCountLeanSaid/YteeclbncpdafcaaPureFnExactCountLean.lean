/- FnExactCountLean: the program's number of lean patterns is the reference's: a lattice that contains another one has an index that divides the other's. -/
import Derived.Test.YteeclbncpdafcaaAid
import Derived.Test.YteeclbncpdafcaaLAABasic
import Derived.Test.YteeclbncpdafcaaLAJCountlean
import Derived.Test.YteeclbncpdafcaaPAx12
import Derived.Test.YteeclbncpdafcaaPAx14
import Derived.Test.YteeclbncpdafcaaPAx15
namespace Go.Proofs.Yteeclbncpdafcaa.Pure
open Go.RowKit Go.Proofs.Yteeclbncpdafcaa.PA Go.Proofs.YteeclbncpdafcaaW.PrintWords Go.Proofs.YteeclbncpdafcaaW.PrintLast Go.Proofs.Yteeclbncpdafcaa.Aid
open Go.Proofs.Yteeclbncpdafcaa.LA
set_option linter.unusedVariables false
set_option linter.unusedSimpArgs false

theorem FnExactCountLean : laws_FnExactCountLean.Pure := by
  intro fr a b c m _ _ _ _ _
  obtain ⟨r, ⟨K1, h1'⟩, ⟨K2, h2'⟩⟩ := both_CountLean fr a b c m
  have h1 : ∀ k, K1 ≤ k → spec_CountLean.f k fr a b c m = some r := h1'
  have h2 : ∀ k, K2 ≤ k → impl_CountLean.f k fr a b c m = some r := h2'
  refine ⟨max K1 K2, ?_⟩
  unfold laws_FnExactCountLean.f
  simp only [toLattice_eq, Option.bind_some]
  rw [h1 _ (Nat.le_max_left _ _), h2 _ (Nat.le_max_right _ _)]
  simp

end Go.Proofs.Yteeclbncpdafcaa.Pure
