/- Plain lemmas on texts as lists of bytes. -/
import Derived.Test.YtnblfcibgokccaaDoorAid
import Derived.Test.YtnblfcibgokccaaDoorPGx0
namespace Go.Proofs.YtnblfcibgokccaaDoor.LG
open Go.RowKit Go.Proofs.YtnblfcibgokccaaDoor.PG Go.Proofs.YtnblfcibgokccaaDoorW.PrintWords Go.Proofs.YtnblfcibgokccaaDoorW.PrintLast Go.Proofs.YtnblfcibgokccaaDoor.Aid
set_option linter.unusedVariables false
set_option linter.unusedSimpArgs false

/-- A digit's byte. -/
def dig (c : UInt8) : Prop := 48 ≤ c.toNat ∧ c.toNat ≤ 57
instance (c : UInt8) : Decidable (dig c) := by unfold dig; infer_instance
/-- Bytes as a list, and back. -/
def LB (a : ByteArray) : List UInt8 := a.data.toList
def ba (l : List UInt8) : ByteArray := ⟨l.toArray⟩
theorem ba_LB (a : ByteArray) : ba (LB a) = a := by cases a; simp [ba, LB]
theorem LB_ba (l : List UInt8) : LB (ba l) = l := by simp [ba, LB]
theorem LB_size (a : ByteArray) : (LB a).length = a.size := rfl

end Go.Proofs.YtnblfcibgokccaaDoor.LG
