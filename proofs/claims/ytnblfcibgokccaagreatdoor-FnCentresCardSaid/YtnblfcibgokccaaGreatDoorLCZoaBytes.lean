/- Plain lemmas on texts as lists of bytes. -/
import Derived.Test.YtnblfcibgokccaaGreatDoorAid
import Derived.Test.YtnblfcibgokccaaGreatDoorPCx0
namespace Go.Proofs.YtnblfcibgokccaaGreatDoor.LC
open Go.RowKit Go.Proofs.YtnblfcibgokccaaGreatDoor.PC Go.Proofs.YtnblfcibgokccaaGreatDoorW.PrintWords Go.Proofs.YtnblfcibgokccaaGreatDoorW.PrintLast Go.Proofs.YtnblfcibgokccaaGreatDoor.Aid
set_option linter.unusedVariables false
set_option linter.unusedSimpArgs false

/-- A digit's byte. -/
def dig (c : UInt8) : Prop := 48 ≤ c.toNat ∧ c.toNat ≤ 57
instance (c : UInt8) : Decidable (dig c) := by unfold dig; infer_instance
/-- Bytes as a list, and back. -/
def LB (a : ByteArray) : List UInt8 := a.data.toList
def ba (l : List UInt8) : ByteArray := ⟨l.toArray⟩
theorem ba_LB (a : ByteArray) : ba (LB a) = a := by cases a; simp [ba, LB]
theorem LB_ba (l : List UInt8) : LB (ba l) = l := by simp [ba, LB]
theorem LB_size (a : ByteArray) : (LB a).length = a.size := rfl

end Go.Proofs.YtnblfcibgokccaaGreatDoor.LC
