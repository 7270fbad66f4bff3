/- Plain lemmas on draws of lattices, vectors and motions. -/
import Derived.Test.YtnblfcibgokccaaGreatDoorAid
import Derived.Test.YtnblfcibgokccaaGreatDoorPCx0
import Derived.Test.YtnblfcibgokccaaGreatDoorLCYaDraw
import Derived.Test.YtnblfcibgokccaaGreatDoorPCx0
import Derived.Test.YtnblfcibgokccaaGreatDoorPCx4
import Derived.Test.YtnblfcibgokccaaGreatDoorPCx6
namespace Go.Proofs.YtnblfcibgokccaaGreatDoor.LC
open Go.RowKit Go.Proofs.YtnblfcibgokccaaGreatDoor.PC Go.Proofs.YtnblfcibgokccaaGreatDoorW.PrintWords Go.Proofs.YtnblfcibgokccaaGreatDoorW.PrintLast Go.Proofs.YtnblfcibgokccaaGreatDoor.Aid
set_option linter.unusedVariables false
set_option linter.unusedSimpArgs false

theorem rd_in (L : List Int) (r : Int) (h0 : 0 ≤ r) (h1 : r < (L.length : Int)) : rd L r ∈ L := by
  have h : r.toNat < L.length := by omega
  have e : rd L r = L[r.toNat] := by unfold rd; simp [List.getD, h]
  rw [e]; exact List.getElem_mem h
theorem pick_mem {l : List Int} (hb : Byt l) {p s : Int} (h : Src l p s) (L : List Int) (h1 : 1 ≤ (L.length : Int)) (h2 : (L.length : Int) ≤ 1000) : ∃ r p' s', spec_l01Pick.f l p s L = some (r, p', s') ∧ Src l p' s' ∧ r ∈ L := by
  obtain ⟨r, p1, s1, e1, g1, r0, r1⟩ := next_some hb h (n := (L.length : Int)) (by omega)
  unfold spec_l01Pick.f
  rw [e1, Option.bind_some]
  dsimp only
  rw [if_pos r0, if_pos (r1 h1)]
  exact ⟨_, _, _, rfl, g1, rd_in L r r0 (r1 h1)⟩
theorem pick_some {l : List Int} (hb : Byt l) {p s : Int} (h : Src l p s) (L : List Int) (h1 : 1 ≤ (L.length : Int)) (h2 : (L.length : Int) ≤ 1000) : ∃ r p' s', spec_l01Pick.f l p s L = some (r, p', s') ∧ Src l p' s' := by
  obtain ⟨r, p1, s1, e1, g1, r0, r1⟩ := next_some hb h (n := (L.length : Int)) (by omega)
  unfold spec_l01Pick.f
  rw [e1, Option.bind_some]
  dsimp only
  rw [if_pos r0, if_pos (r1 h1)]
  exact ⟨_, _, _, rfl, g1⟩
theorem vec_some {l : List Int} (hb : Byt l) {p s : Int} (h : Src l p s) : ∃ x y p' s', spec_l01Draw.f l p s = some (x, y, p', s') ∧ Src l p' s' ∧ (-1001 ≤ x ∧ x ≤ 1001) ∧ (-1001 ≤ y ∧ y ≤ 1001) := by
  obtain ⟨r, p1, s1, e1, g1, -, -⟩ := next_some hb h (n := 40) (by omega)
  unfold spec_l01Draw.f
  rw [e1, Option.bind_some]; dsimp only
  by_cases c : r = 0
  · obtain ⟨q, p2, s2, e2, g2, m2⟩ := pick_mem hb g1 [(-1000), 1000, 1001, 0] (by decide) (by decide)
    obtain ⟨q', p3, s3, e3, g3, m3⟩ := pick_mem hb g2 [(-1001), 1000, 0] (by decide) (by decide)
    rw [if_pos c, e2, Option.bind_some]; dsimp only
    rw [e3, Option.bind_some]
    simp only [List.mem_cons, List.not_mem_nil, or_false] at m2 m3
    exact ⟨_, _, _, _, rfl, g3, by omega, by omega⟩
  · obtain ⟨q, p2, s2, e2, g2, m2⟩ := pick_mem hb g1 [4, 9, 30] (by decide) (by decide)
    simp only [List.mem_cons, List.not_mem_nil, or_false] at m2
    have w : wrap64 (wrap64 (2 * q) + 1) = 2 * q + 1 := by rw [w64s (x := 2 * q) (by omega) (by omega), w64s (by omega) (by omega)]
    obtain ⟨u, p3, s3, e3, g3, u0, u1⟩ := next_some hb g2 (n := 2 * q + 1) (by omega)
    obtain ⟨v, p4, s4, e4, g4, v0, v1⟩ := next_some hb g3 (n := 2 * q + 1) (by omega)
    have u1 := u1 (by omega)
    have v1 := v1 (by omega)
    rw [if_neg c, e2, Option.bind_some]; dsimp only
    rw [w, e3, Option.bind_some]; dsimp only
    rw [e4, Option.bind_some]; dsimp only
    rw [w64s (x := u - q) (by omega) (by omega), w64s (x := v - q) (by omega) (by omega)]
    exact ⟨_, _, _, _, rfl, g4, by omega, by omega⟩
end Go.Proofs.YtnblfcibgokccaaGreatDoor.LC
