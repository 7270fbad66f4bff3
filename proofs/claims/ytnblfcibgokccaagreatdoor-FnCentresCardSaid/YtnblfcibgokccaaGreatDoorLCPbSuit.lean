/- Plain lemmas on suitable motions. -/
import Derived.Test.YtnblfcibgokccaaGreatDoorAid
import Derived.Test.YtnblfcibgokccaaGreatDoorPCx0
import Derived.Test.YtnblfcibgokccaaGreatDoorLCABasic
import Derived.Test.YtnblfcibgokccaaGreatDoorLCPPoints
import Derived.Test.YtnblfcibgokccaaGreatDoorPCx0
import Derived.Test.YtnblfcibgokccaaGreatDoorPCx4
import Derived.Test.YtnblfcibgokccaaGreatDoorPCx5
import Derived.Test.YtnblfcibgokccaaGreatDoorPCx6
import Derived.Test.YtnblfcibgokccaaGreatDoorPCx8
namespace Go.Proofs.YtnblfcibgokccaaGreatDoor.LC
open Go.RowKit Go.Proofs.YtnblfcibgokccaaGreatDoor.PC Go.Proofs.YtnblfcibgokccaaGreatDoorW.PrintWords Go.Proofs.YtnblfcibgokccaaGreatDoorW.PrintLast Go.Proofs.YtnblfcibgokccaaGreatDoor.Aid
set_option linter.unusedVariables false
set_option linter.unusedSimpArgs false

theorem impl_IsVec_eq (x y : Int) : impl_IsVec.f x y = some (decide (IsV x y)) := by
  unfold impl_IsVec.f impl_isCoordinate.f
  simp only [within_eq, Option.bind_some, ifb]
  rw [b2]; rfl
theorem spec_IsVec_eq (x y : Int) : spec_IsVec.f x y = some (decide (IsV x y)) := by
  unfold spec_IsVec.f
  simp only [l01In_eq, Option.bind_some, ifb]
  rw [b2]; rfl
theorem spec_IsMat_eq (a b c d : Int) : spec_IsMat.f a b c d = some (decide (IsM a b c d)) := by
  unfold spec_IsMat.f spec_l02Small.f spec_l02Det.f
  simp only [spec_IsVec_eq, Option.bind_some, ifb]
  rw [b2]
  simp only [Option.bind_some, ifb]
  by_cases h : IsV a b ∧ IsV c d
  · rw [if_pos h, det_w h]
    by_cases e : a * d - b * c = 1
    · rw [if_pos e]; simp [IsM, h, e]
    · rw [if_neg e]
      by_cases e' : a * d - b * c = -1
      · simp [IsM, h, e']
      · simp [IsM, e, e']
  · rw [if_neg h]
    simp only [IsM, h, false_and, decide_false]
theorem spec_norm_eq {fr x y : Int} (hx0 : -2000 ≤ x) (hx1 : x ≤ 2000) (hy0 : -2000 ≤ y) (hy1 : y ≤ 2000) : spec_l04Norm.f fr x y = some (nrm fr x y) := by
  unfold spec_l04Norm.f nrm
  obtain ⟨e1, e2⟩ := nrm_w (fr := fr) hx0 hx1 hy0 hy1
  rw [e1, e2]
  by_cases h : fr = 1
  · rw [if_pos h, if_pos h]
  · rw [if_neg h, if_neg h]
theorem spec_keeps_eq {fr a b c d : Int} (hf : 0 ≤ fr ∧ fr ≤ 1) (h : IsV a b ∧ IsV c d) : spec_l04Keeps.f fr a b c d = some (decide (Keeps fr a b c d)) := by
  obtain ⟨⟨⟨h1, h2⟩, h3, h4⟩, ⟨h5, h6⟩, h7, h8⟩ := h
  unfold spec_l04Keeps.f spec_l01Add.f Keeps
  rw [spec_norm_eq (by omega) (by omega) (by omega) (by omega), spec_norm_eq (x := b) (by omega) (by omega) (by omega) (by omega)]
  simp only [Option.bind_some]
  rw [w64s (x := a + b) (by omega) (by omega), w64s (x := c + d) (by omega) (by omega), w64s (x := 2 + fr) (by omega) (by omega), spec_norm_eq (by omega) (by omega) (by omega) (by omega)]
  simp only [Option.bind_some]
  by_cases e1 : nrm fr a c = 1
  · rw [if_pos e1]
    by_cases e2 : nrm fr b d = 1
    · rw [if_pos e2]
      congr 1
      rw [Bool.eq_iff_iff]; simp [e1, e2]
    · rw [if_neg e2]; simp [e2]
  · rw [if_neg e1]; simp [e1]
end Go.Proofs.YtnblfcibgokccaaGreatDoor.LC
