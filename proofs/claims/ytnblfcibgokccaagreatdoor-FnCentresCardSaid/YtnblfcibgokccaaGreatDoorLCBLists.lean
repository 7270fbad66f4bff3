/- Plain lemmas on lists: copying, comparing, checking and marking them in loops. -/
import Derived.Test.YtnblfcibgokccaaGreatDoorAid
import Derived.Test.YtnblfcibgokccaaGreatDoorPCx0
namespace Go.Proofs.YtnblfcibgokccaaGreatDoor.LC
open Go.RowKit Go.Proofs.YtnblfcibgokccaaGreatDoor.PC Go.Proofs.YtnblfcibgokccaaGreatDoorW.PrintWords Go.Proofs.YtnblfcibgokccaaGreatDoorW.PrintLast Go.Proofs.YtnblfcibgokccaaGreatDoor.Aid
set_option linter.unusedVariables false
set_option linter.unusedSimpArgs false

theorem fill_step {α : Type} (l : List α) (z x : α) (i : Nat) (hi : i < l.length) (hx : l.getD i z = x) : (l.take i ++ List.replicate (l.length - i) z).set i x = l.take (i + 1) ++ List.replicate (l.length - (i + 1)) z := by
  subst hx
  have e : l.length - i = (l.length - (i + 1)) + 1 := by omega
  rw [e, List.replicate_succ, List.set_append_right _ _ (by simp; omega)]
  have : i - (l.take i).length = 0 := by simp; omega
  have e2 : l.take (i + 1) = l.take i ++ [l.getD i z] := by
    rw [List.take_succ_eq_append_getElem hi]
    simp [List.getD, hi]
  rw [this, List.set_cons_zero, e2, List.append_assoc, List.singleton_append]
theorem rd_nat (l : List Int) (i : Nat) : rd l (i : Int) = l.getD i 0 := by unfold rd; rw [Int.toNat_natCast]
theorem rd_mem (l : List Int) (i : Int) (h0 : 0 ≤ i) (h1 : i < l.length) : rd l i ∈ l := by
  obtain ⟨n, rfl⟩ := Int.eq_ofNat_of_zero_le h0
  rw [rd_nat]
  have : n < l.length := by omega
  simp [List.getD, this]
end Go.Proofs.YtnblfcibgokccaaGreatDoor.LC
