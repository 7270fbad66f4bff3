/- FnExactNameOfFacts: the program's name of facts, and its code, are the reference's. -/
import Derived.Test.YtkjdndikgekidaaDoorAid
import Derived.Test.YtkjdndikgekidaaDoorLBABasic
import Derived.Test.YtkjdndikgekidaaDoorLBZsNames
import Derived.Test.YtkjdndikgekidaaDoorPBx3
import Derived.Test.YtkjdndikgekidaaDoorPBx6
namespace Go.Proofs.YtkjdndikgekidaaDoor.Pure
open Go.RowKit Go.Proofs.YtkjdndikgekidaaDoor.PB Go.Proofs.YtkjdndikgekidaaDoorW.PrintWords Go.Proofs.YtkjdndikgekidaaDoorW.PrintLast Go.Proofs.YtkjdndikgekidaaDoor.Aid
open Go.Proofs.YtkjdndikgekidaaDoor.LB
set_option linter.unusedVariables false
set_option linter.unusedSimpArgs false

theorem FnExactNameOfFacts : laws_FnExactNameOfFacts.Pure := by
  intro r m f c al hr _ _ _
  have hr' : -9223372036854775808 ≤ r ∧ r ≤ 9223372036854775807 := wf_lo hr
  refine ⟨1000, ?_⟩
  obtain ⟨s, h1, h2⟩ := NameOfFacts_both r m f c al hr'.1 hr'.2 (k := 1000) (by omega)
  unfold laws_FnExactNameOfFacts.f laws_toFacts.f
  simp only [Option.bind_some, h1, h2, if_true]

end Go.Proofs.YtkjdndikgekidaaDoor.Pure
