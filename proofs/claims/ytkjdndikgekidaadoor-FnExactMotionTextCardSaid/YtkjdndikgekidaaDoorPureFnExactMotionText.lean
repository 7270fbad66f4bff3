/- FnExactMotionText: the program's text of a motion is the reference's. -/
import Derived.Test.YtkjdndikgekidaaDoorAid
import Derived.Test.YtkjdndikgekidaaDoorLBZrMotiontext
import Derived.Test.YtkjdndikgekidaaDoorPBx5
import Derived.Test.YtkjdndikgekidaaDoorPBx6
namespace Go.Proofs.YtkjdndikgekidaaDoor.Pure
open Go.RowKit Go.Proofs.YtkjdndikgekidaaDoor.PB Go.Proofs.YtkjdndikgekidaaDoorW.PrintWords Go.Proofs.YtkjdndikgekidaaDoorW.PrintLast Go.Proofs.YtkjdndikgekidaaDoor.Aid
open Go.Proofs.YtkjdndikgekidaaDoor.LB
set_option linter.unusedVariables false
set_option linter.unusedSimpArgs false

theorem FnExactMotionText : laws_FnExactMotionText.Pure := by
  intro a b c d x y _ _ _ _ _ _
  refine ⟨1000, ?_⟩
  obtain ⟨s, h1, h2⟩ := MotionText_both a b c d x y (k := 1000) (by omega)
  unfold laws_FnExactMotionText.f laws_toMotion.f laws_toMat.f laws_toVec.f
  simp only [Option.bind_some, h1, h2, if_true]

end Go.Proofs.YtkjdndikgekidaaDoor.Pure
