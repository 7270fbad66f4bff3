/- FnFriezeTexts: for all drawn friezes and texts the program and the reference answer alike; a frieze is found back from its text, and a text that is read is the text of what is read. -/
import Derived.Test.YtnblfcibgokccaaDoorAid
import Derived.Test.YtnblfcibgokccaaDoorLGYaDraw
import Derived.Test.YtnblfcibgokccaaDoorLGZoaBytes
import Derived.Test.YtnblfcibgokccaaDoorLGZwReadfrieze
import Derived.Test.YtnblfcibgokccaaDoorLGZyFriezetext
import Derived.Test.YtnblfcibgokccaaDoorLGZzbFriezedraw
import Derived.Test.YtnblfcibgokccaaDoorLGZzcFriezetexts
import Derived.Test.YtnblfcibgokccaaDoorPGx1
import Derived.Test.YtnblfcibgokccaaDoorPGx6
import Derived.Test.YtnblfcibgokccaaDoorPGx7
import Derived.Test.YtnblfcibgokccaaDoorPGx8
namespace Go.Proofs.YtnblfcibgokccaaDoor.Pure
open Go.RowKit Go.Proofs.YtnblfcibgokccaaDoor.PG Go.Proofs.YtnblfcibgokccaaDoorW.PrintWords Go.Proofs.YtnblfcibgokccaaDoorW.PrintLast Go.Proofs.YtnblfcibgokccaaDoor.Aid
open Go.Proofs.YtnblfcibgokccaaDoor.LG
set_option linter.unusedVariables false
set_option linter.unusedSimpArgs false

theorem FnFriezeTexts : laws_FnFriezeTexts.Pure := by
  intro src hl hw
  by_cases big : (src.length : Int) > 4096
  · refine ⟨1, ?_⟩
    unfold laws_FnFriezeTexts.f laws_big.f
    rw [Option.bind_some, if_pos (by simpa using big)]
  have hb : Byt src := byt_of hw (by omega)
  obtain ⟨s0, d0, g0⟩ := from_ev hb
  obtain ⟨⟨h, w, l, p1, s1⟩, ⟨K1, dK⟩, hlen, g1⟩ := draw_frieze hb g0
  have dK : ∀ k, K1 ≤ k → spec_l08Draw.f k src 0 s0 = some (h, w, l, p1, s1) := dK
  have hlen : l.length ≤ 1000 := hlen
  have g1 : Src src p1 s1 := g1
  -- the frieze's text
  obtain ⟨t, e, ht, hf0, hf1, hts⟩ : ∃ t e, (if Frz h w l then some (ba (txF w.toNat 0 l), (0 : Int)) else some (⟨#[]⟩, 1)) = some (t, e) ∧ (e = 0 → Frz h w l ∧ t = ba (txF w.toNat 0 l)) ∧ True ∧ t.size ≤ 2000 := by
    by_cases hf : Frz h w l
    · rw [if_pos hf]
      refine ⟨_, _, rfl, fun _ => ⟨hf, rfl⟩, trivial, ?_⟩
      have := txF_len w.toNat l 0
      show (txF w.toNat 0 l).length ≤ 2000
      omega
    · rw [if_neg hf]
      exact ⟨_, _, rfl, fun h => absurd h (by decide), trivial, by decide⟩
  have x1 : ∀ k, 2000000 < k → spec_FriezeText.f k h w l = some (t, e) := fun k hk => by rw [spec_FriezeText_eq h w l (by omega) hk, ht]
  have x2 : ∀ k, 1000 < k → impl_FriezeText.f k h w l = some (t, e) := fun k hk => by rw [impl_FriezeText_eq h w l hk, ht]
  -- the text that is read
  obtain ⟨a, p2, s2, n1, g2, -, -⟩ := next_some hb g1 (n := 3) (by omega)
  obtain ⟨u, hu, hus⟩ : ∃ u, (∀ k, 2000000 + K1 < k → spec_DrawReadFrieze.f k src = some u) ∧ u.size ≤ 3000 := by
    by_cases c : a = 0
    · obtain ⟨u, p3, s3, m1, -, m3⟩ := damage_some hb g2 t (by omega)
      refine ⟨u, fun k hk => ?_, by omega⟩
      unfold spec_DrawReadFrieze.f
      rw [d0 k (by omega), Option.bind_some]; dsimp only
      rw [dK k (by omega), Option.bind_some]; dsimp only
      rw [x1 k (by omega), Option.bind_some]; dsimp only
      rw [n1, Option.bind_some]; dsimp only
      rw [if_pos c, m1, Option.bind_some]
    · refine ⟨t, fun k hk => ?_, by omega⟩
      unfold spec_DrawReadFrieze.f
      rw [d0 k (by omega), Option.bind_some]; dsimp only
      rw [dK k (by omega), Option.bind_some]; dsimp only
      rw [x1 k (by omega), Option.bind_some]; dsimp only
      rw [n1, Option.bind_some]; dsimp only
      rw [if_neg c]
  obtain ⟨A, B, C, E, hr⟩ : ∃ A B C E, rdFrz u = (A, B, C, E) := ⟨_, _, _, _, rfl⟩
  have hC : C.length ≤ 144 := by have := rdFrz_len u; rw [hr] at this; exact this
  have y1 : ∀ k, 6000000 < k → spec_ReadFrieze.f k u = some (A, B, C, E) := fun k hk => by rw [spec_RF u (by omega) hk, hr]
  have y2 : ∀ k, 6000000 < k → impl_ReadFrieze.f k u = some (A, B, C, E) := fun k hk => by rw [impl_RF u (by omega) hk, hr]
  have z1 : ∀ k, 1000 < k → laws_likeFriezes9.f k A B C A B C = some true := fun k hk => by
    unfold laws_likeFriezes9.f
    rw [if_pos rfl, if_pos rfl, likeInts_refl C (by omega) (by omega)]; rfl
  obtain ⟨m, hm⟩ : ∃ m : Nat, m = 7000000 + K1 := ⟨_, rfl⟩
  refine ⟨m + 3, ?_⟩
  unfold laws_FnFriezeTexts.f laws_big.f
  rw [Option.bind_some, if_neg (by simpa using big)]
  have d1 : spec_DrawFriezeText.f (m + 3) src = some (h, w, l) := by
    unfold spec_DrawFriezeText.f
    rw [d0 _ (by omega), Option.bind_some]; dsimp only
    rw [dK _ (by omega), Option.bind_some]
  rw [d1, Option.bind_some]; dsimp only
  rw [x2 _ (by omega), Option.bind_some]; dsimp only
  rw [x1 _ (by omega), Option.bind_some]; dsimp only
  rw [hu _ (by omega), Option.bind_some]
  rw [y2 _ (by omega), Option.bind_some]; dsimp only
  rw [y1 _ (by omega), Option.bind_some]; dsimp only
  rw [if_pos rfl, if_pos rfl, if_pos rfl, z1 _ (by omega), Option.bind_some]
  have hend : laws_FnFriezeTexts.j1 (m + 2) t e h w l = some true := by
    rw [show m + 2 = (m + 1) + 1 from rfl, laws_FnFriezeTexts.j1]
    by_cases c : e = 0
    · obtain ⟨hf, rfl⟩ := hf0 c
      have y3 : impl_ReadFrieze.f (m + 1) (ba (txF w.toNat 0 l)) = some (h, w, l, 0) := by rw [impl_RF _ (by omega) (by omega), rdFrz_text hf]
      rw [if_pos c, y3, Option.bind_some]; dsimp only
      have z2 : laws_likeFriezes9.f (m + 1) h w l h w l = some true := by
        unfold laws_likeFriezes9.f
        rw [if_pos rfl, if_pos rfl, likeInts_refl l (by omega) (by omega)]; rfl
      rw [if_pos rfl, z2]; rfl
    · rw [if_neg c]
  rw [show m + 3 = (m + 2) + 1 from rfl, laws_FnFriezeTexts.j0, if_neg (by decide)]
  by_cases c : E = 0
  · obtain ⟨hf, hbk⟩ := rdFrz_back hr c
    have x3 : impl_FriezeText.f (m + 2) A B C = some (u, 0) := by rw [impl_FriezeText_eq A B C (by omega), if_pos hf, hbk]
    rw [if_pos c, x3, Option.bind_some]; dsimp only
    rw [if_pos rfl, if_pos rfl]
    exact hend
  · rw [if_neg c]
    exact hend

end Go.Proofs.YtnblfcibgokccaaDoor.Pure
