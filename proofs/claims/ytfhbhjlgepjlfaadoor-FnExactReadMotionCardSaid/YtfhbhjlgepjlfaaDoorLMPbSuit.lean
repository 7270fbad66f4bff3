/- Plain lemmas on suitable motions. -/
import Derived.Test.YtfhbhjlgepjlfaaDoorAid
import Derived.Test.YtfhbhjlgepjlfaaDoorPMx0
import Derived.Test.YtfhbhjlgepjlfaaDoorLMABasic
import Derived.Test.YtfhbhjlgepjlfaaDoorLMPPoints
import Derived.Test.YtfhbhjlgepjlfaaDoorPMx2
import Derived.Test.YtfhbhjlgepjlfaaDoorPMx4
import Derived.Test.YtfhbhjlgepjlfaaDoorPMx5
namespace Go.Proofs.YtfhbhjlgepjlfaaDoor.LM
open Go.RowKit Go.Proofs.YtfhbhjlgepjlfaaDoor.PM Go.Proofs.YtfhbhjlgepjlfaaDoorW.PrintWords Go.Proofs.YtfhbhjlgepjlfaaDoorW.PrintLast Go.Proofs.YtfhbhjlgepjlfaaDoor.Aid
set_option linter.unusedVariables false
set_option linter.unusedSimpArgs false

theorem impl_IsVec_eq (x y : Int) : impl_IsVec.f x y = some (decide (IsV x y)) := by
  unfold impl_IsVec.f impl_isCoordinate.f
  simp only [within_eq, Option.bind_some, ifb]
  rw [b2]; rfl
theorem spec_IsVec_eq (x y : Int) : spec_IsVec.f x y = some (decide (IsV x y)) := by
  unfold spec_IsVec.f
  simp only [l01In_eq, Option.bind_some, ifb]
  rw [b2]; rfl
theorem spec_IsMat_eq (a b c d : Int) : spec_IsMat.f a b c d = some (decide (IsM a b c d)) := by
  unfold spec_IsMat.f spec_l02Small.f spec_l02Det.f
  simp only [spec_IsVec_eq, Option.bind_some, ifb]
  rw [b2]
  simp only [Option.bind_some, ifb]
  by_cases h : IsV a b ∧ IsV c d
  · rw [if_pos h, det_w h]
    by_cases e : a * d - b * c = 1
    · rw [if_pos e]; simp [IsM, h, e]
    · rw [if_neg e]
      by_cases e' : a * d - b * c = -1
      · simp [IsM, h, e']
      · simp [IsM, e, e']
  · rw [if_neg h]
    simp only [IsM, h, false_and, decide_false]
end Go.Proofs.YtfhbhjlgepjlfaaDoor.LM
