/- Plain lemmas on suitable motions. -/
import Derived.Test.YtnblfcibgokccaaGreatDoorAid
import Derived.Test.YtnblfcibgokccaaGreatDoorPAx0
import Derived.Test.YtnblfcibgokccaaGreatDoorLAABasic
import Derived.Test.YtnblfcibgokccaaGreatDoorLAPPoints
import Derived.Test.YtnblfcibgokccaaGreatDoorPAx3
import Derived.Test.YtnblfcibgokccaaGreatDoorPAx4
import Derived.Test.YtnblfcibgokccaaGreatDoorPAx5
import Derived.Test.YtnblfcibgokccaaGreatDoorPAx6
namespace Go.Proofs.YtnblfcibgokccaaGreatDoor.LA
open Go.RowKit Go.Proofs.YtnblfcibgokccaaGreatDoor.PA Go.Proofs.YtnblfcibgokccaaGreatDoorW.PrintWords Go.Proofs.YtnblfcibgokccaaGreatDoorW.PrintLast Go.Proofs.YtnblfcibgokccaaGreatDoor.Aid
set_option linter.unusedVariables false
set_option linter.unusedSimpArgs false

theorem impl_IsVec_eq (x y : Int) : impl_IsVec.f x y = some (decide (IsV x y)) := by
  unfold impl_IsVec.f impl_isCoordinate.f
  simp only [within_eq, Option.bind_some, ifb]
  rw [b2]; rfl
theorem spec_IsVec_eq (x y : Int) : spec_IsVec.f x y = some (decide (IsV x y)) := by
  unfold spec_IsVec.f
  simp only [l01In_eq, Option.bind_some, ifb]
  rw [b2]; rfl
theorem spec_IsMat_eq (a b c d : Int) : spec_IsMat.f a b c d = some (decide (IsM a b c d)) := by
  unfold spec_IsMat.f spec_l02Small.f spec_l02Det.f
  simp only [spec_IsVec_eq, Option.bind_some, ifb]
  rw [b2]
  simp only [Option.bind_some, ifb]
  by_cases h : IsV a b ∧ IsV c d
  · rw [if_pos h, det_w h]
    by_cases e : a * d - b * c = 1
    · rw [if_pos e]; simp [IsM, h, e]
    · rw [if_neg e]
      by_cases e' : a * d - b * c = -1
      · simp [IsM, h, e']
      · simp [IsM, e, e']
  · rw [if_neg h]
    simp only [IsM, h, false_and, decide_false]
end Go.Proofs.YtnblfcibgokccaaGreatDoor.LA
