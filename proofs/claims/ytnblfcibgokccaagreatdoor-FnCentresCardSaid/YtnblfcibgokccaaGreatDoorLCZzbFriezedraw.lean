/- Plain lemmas on drawn friezes and damaged texts: each draw is there. -/
import Derived.Test.YtnblfcibgokccaaGreatDoorAid
import Derived.Test.YtnblfcibgokccaaGreatDoorPCx0
import Derived.Test.YtnblfcibgokccaaGreatDoorLCYaDraw
import Derived.Test.YtnblfcibgokccaaGreatDoorPCx0
import Derived.Test.YtnblfcibgokccaaGreatDoorPCx12
namespace Go.Proofs.YtnblfcibgokccaaGreatDoor.LC
open Go.RowKit Go.Proofs.YtnblfcibgokccaaGreatDoor.PC Go.Proofs.YtnblfcibgokccaaGreatDoorW.PrintWords Go.Proofs.YtnblfcibgokccaaGreatDoorW.PrintLast Go.Proofs.YtnblfcibgokccaaGreatDoor.Aid
set_option linter.unusedVariables false
set_option linter.unusedSimpArgs false

theorem damage_some {src : List Int} (hb : Byt src) {p s : Int} (hs : Src src p s) (t : ByteArray) (ht : t.size ≤ 1000000) : ∃ u p' s', spec_l01Damage.f src p s t = some (u, p', s') ∧ Src src p' s' ∧ u.size ≤ t.size + 1 := by
  have hsz : ∀ a b : Nat, (t.extract a b).size ≤ t.size := fun a b => by rw [ByteArray.size_extract]; omega
  have h9 : wrap64 ((t.size : Int) + 1) = (t.size : Int) + 1 := w64s (by omega) (by omega)
  obtain ⟨a, p1, s1, e1, g1, a0, a1⟩ := next_some hb hs (n := (t.size : Int) + 1) (by omega)
  have a1 := a1 (by omega)
  obtain ⟨b, p2, s2, e2, g2, -, -⟩ := next_some hb g1 (n := 8) (by omega)
  unfold spec_l01Damage.f
  rw [h9, e1, Option.bind_some]; dsimp only
  rw [e2, Option.bind_some]; dsimp only
  by_cases c0 : b = 0
  · rw [if_pos c0, if_pos a0, if_pos (by omega)]
    exact ⟨_, _, _, rfl, g2, by have := hsz 0 a.toNat; omega⟩
  · rw [if_neg c0]
    by_cases c1 : b = 1
    · rw [if_pos c1, if_pos a0, if_pos (by omega), Option.bind_some]
      obtain ⟨c, p3, s3, e3, g3, c0', c1'⟩ := next_some hb g2 (n := 8) (by omega)
      have c1' := c1' (by omega)
      rw [e3, Option.bind_some]; dsimp only
      rw [if_pos c0', if_pos (by simpa using c1')]
      have h1 : (rdOf ByteArray.empty ([⟨#[48]⟩, ⟨#[49]⟩, ⟨#[32]⟩, ⟨#[45]⟩, ⟨#[44]⟩, ⟨#[59]⟩, ⟨#[10]⟩, ⟨#[97]⟩] : List ByteArray) c).size = 1 := by
        have : c = 0 ∨ c = 1 ∨ c = 2 ∨ c = 3 ∨ c = 4 ∨ c = 5 ∨ c = 6 ∨ c = 7 := by omega
        rcases this with rfl | rfl | rfl | rfl | rfl | rfl | rfl | rfl <;> rfl
      have s1' : (t.extract 0 a.toNat).size = a.toNat := by rw [ByteArray.size_extract]; omega
      have s2' : (t.extract a.toNat t.size).size = t.size - a.toNat := by rw [ByteArray.size_extract]; omega
      rw [if_pos (by omega), if_pos (by rw [ByteArray.size_append]; omega)]
      exact ⟨_, _, _, rfl, g3, by rw [ByteArray.size_append, ByteArray.size_append]; omega⟩
    · rw [if_neg c1]
      by_cases c2 : b = 2
      · rw [if_pos c2]
        by_cases c3 : a < (t.size : Int)
        · have h8 : wrap64 (a + 1) = a + 1 := w64s (by omega) (by omega)
          have s1' : (t.extract 0 a.toNat).size = a.toNat := by rw [ByteArray.size_extract]; omega
          have s2' : (t.extract (a + 1).toNat t.size).size ≤ t.size := hsz _ _
          have s3' : (t.extract (a + 1).toNat t.size).size = t.size - (a + 1).toNat := by rw [ByteArray.size_extract]; omega
          rw [h8, if_pos c3, if_pos a0, if_pos (by omega), if_pos (by omega), if_pos (by omega), if_pos (by omega)]
          exact ⟨_, _, _, rfl, g2, by rw [ByteArray.size_append]; omega⟩
        · rw [if_neg c3]; exact ⟨_, _, _, rfl, g2, by omega⟩
      · rw [if_neg c2]; exact ⟨_, _, _, rfl, g2, by omega⟩

end Go.Proofs.YtnblfcibgokccaaGreatDoor.LC
