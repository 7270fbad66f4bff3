/- FnExactReadMotion: the program reads a motion's text as the reference does. -/
import Derived.Test.YtfhbhjlgepjlfaaDoorAid
import Derived.Test.YtfhbhjlgepjlfaaDoorLMZuReadvec
import Derived.Test.YtfhbhjlgepjlfaaDoorPMx6
namespace Go.Proofs.YtfhbhjlgepjlfaaDoor.Pure
open Go.RowKit Go.Proofs.YtfhbhjlgepjlfaaDoor.PM Go.Proofs.YtfhbhjlgepjlfaaDoorW.PrintWords Go.Proofs.YtfhbhjlgepjlfaaDoorW.PrintLast Go.Proofs.YtfhbhjlgepjlfaaDoor.Aid
open Go.Proofs.YtfhbhjlgepjlfaaDoor.LM
set_option linter.unusedVariables false
set_option linter.unusedSimpArgs false

theorem FnExactReadMotion : laws_FnExactReadMotion.Pure := by
  intro s _
  refine ⟨3000000, ?_⟩
  unfold laws_FnExactReadMotion.f
  by_cases hb : (s.size : Int) > 1048576
  · rw [if_pos hb]
  · rw [if_neg hb]
    obtain ⟨⟨a, b, c, d, x, y, t⟩, h1, h2⟩ := ReadMotion_both s (by omega) (k := 3000000) (by omega)
    rw [h1, h2]
    simp [laws_eqMotion.f, laws_eqMat.f, laws_eqVec.f]

end Go.Proofs.YtfhbhjlgepjlfaaDoor.Pure
