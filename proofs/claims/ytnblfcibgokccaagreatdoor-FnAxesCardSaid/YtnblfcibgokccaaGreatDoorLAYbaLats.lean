/- Plain lemmas on draws of lattices, vectors and motions. -/
import Derived.Test.YtnblfcibgokccaaGreatDoorAid
import Derived.Test.YtnblfcibgokccaaGreatDoorPAx0
import Derived.Test.YtnblfcibgokccaaGreatDoorLAYaDraw
import Derived.Test.YtnblfcibgokccaaGreatDoorPAx0
import Derived.Test.YtnblfcibgokccaaGreatDoorPAx3
namespace Go.Proofs.YtnblfcibgokccaaGreatDoor.LA
open Go.RowKit Go.Proofs.YtnblfcibgokccaaGreatDoor.PA Go.Proofs.YtnblfcibgokccaaGreatDoorW.PrintWords Go.Proofs.YtnblfcibgokccaaGreatDoorW.PrintLast Go.Proofs.YtnblfcibgokccaaGreatDoor.Aid
set_option linter.unusedVariables false
set_option linter.unusedSimpArgs false

theorem rd_in (L : List Int) (r : Int) (h0 : 0 ≤ r) (h1 : r < (L.length : Int)) : rd L r ∈ L := by
  have h : r.toNat < L.length := by omega
  have e : rd L r = L[r.toNat] := by unfold rd; simp [List.getD, h]
  rw [e]; exact List.getElem_mem h
theorem pick_mem {l : List Int} (hb : Byt l) {p s : Int} (h : Src l p s) (L : List Int) (h1 : 1 ≤ (L.length : Int)) (h2 : (L.length : Int) ≤ 1000) : ∃ r p' s', spec_l01Pick.f l p s L = some (r, p', s') ∧ Src l p' s' ∧ r ∈ L := by
  obtain ⟨r, p1, s1, e1, g1, r0, r1⟩ := next_some hb h (n := (L.length : Int)) (by omega)
  unfold spec_l01Pick.f
  rw [e1, Option.bind_some]
  dsimp only
  rw [if_pos r0, if_pos (r1 h1)]
  exact ⟨_, _, _, rfl, g1, rd_in L r r0 (r1 h1)⟩
theorem pick_some {l : List Int} (hb : Byt l) {p s : Int} (h : Src l p s) (L : List Int) (h1 : 1 ≤ (L.length : Int)) (h2 : (L.length : Int) ≤ 1000) : ∃ r p' s', spec_l01Pick.f l p s L = some (r, p', s') ∧ Src l p' s' := by
  obtain ⟨r, p1, s1, e1, g1, r0, r1⟩ := next_some hb h (n := (L.length : Int)) (by omega)
  unfold spec_l01Pick.f
  rw [e1, Option.bind_some]
  dsimp only
  rw [if_pos r0, if_pos (r1 h1)]
  exact ⟨_, _, _, rfl, g1⟩
end Go.Proofs.YtnblfcibgokccaaGreatDoor.LA
