/- FnCentres: for all drawn motions and texts the program and the reference answer alike; a rotation leaves its centre, and a motion is found back from its text. -/
import Derived.Test.YtnblfcibgokccaaGreatDoorAid
import Derived.Test.YtnblfcibgokccaaGreatDoorLCPPoints
import Derived.Test.YtnblfcibgokccaaGreatDoorLCYaDraw
import Derived.Test.YtnblfcibgokccaaGreatDoorLCZoaBytes
import Derived.Test.YtnblfcibgokccaaGreatDoorLCZtRead
import Derived.Test.YtnblfcibgokccaaGreatDoorLCZuReadvec
import Derived.Test.YtnblfcibgokccaaGreatDoorLCZxbMotext
import Derived.Test.YtnblfcibgokccaaGreatDoorLCZxdCentres
import Derived.Test.YtnblfcibgokccaaGreatDoorLCZzbFriezedraw
import Derived.Test.YtnblfcibgokccaaGreatDoorPCx10
import Derived.Test.YtnblfcibgokccaaGreatDoorPCx11
import Derived.Test.YtnblfcibgokccaaGreatDoorPCx12
import Derived.Test.YtnblfcibgokccaaGreatDoorPCx15
import Derived.Test.YtnblfcibgokccaaGreatDoorPCx4
import Derived.Test.YtnblfcibgokccaaGreatDoorPCx6
namespace Go.Proofs.YtnblfcibgokccaaGreatDoor.Pure
open Go.RowKit Go.Proofs.YtnblfcibgokccaaGreatDoor.PC Go.Proofs.YtnblfcibgokccaaGreatDoorW.PrintWords Go.Proofs.YtnblfcibgokccaaGreatDoorW.PrintLast Go.Proofs.YtnblfcibgokccaaGreatDoor.Aid
open Go.Proofs.YtnblfcibgokccaaGreatDoor.LC
set_option linter.unusedVariables false
set_option linter.unusedSimpArgs false

theorem FnCentres : laws_FnCentres.Pure := by
  intro src hl hw
  by_cases big : (src.length : Int) > 4096
  · refine ⟨1, ?_⟩
    unfold laws_FnCentres.f laws_big.f
    rw [Option.bind_some, if_pos (by simpa using big)]
  have hb : Byt src := byt_of hw (by omega)
  obtain ⟨s0, d0, g0⟩ := from_ev hb
  obtain ⟨⟨a, b, c, d, x, y, p1, s1⟩, dm, g1⟩ := drawMo_some hb g0
  have g1 : Src src p1 s1 := g1
  obtain ⟨v3, p3, s3, e3, g3, -, -⟩ := next_some hb g1 (n := 3) (by omega)
  have t1 : ∀ k, 100 < k → spec_MotionText.f k a b c d x y = some (motTxt a b c d x y) ∧ impl_MotionText.f k a b c d x y = some (motTxt a b c d x y) := fun k hk => ⟨(motTxt_both a b c d x y hk).1, (motTxt_both a b c d x y hk).2.1⟩
  have t2 := (motTxt_both a b c d x y (k := 101) (by omega)).2.2
  have hA : ∀ k, 300 < k → spec_DrawCentreOf.f k src = some (a, b, c, d, x, y) := fun k hk => by
    unfold spec_DrawCentreOf.f
    rw [d0 k (by omega), Option.bind_some]; dsimp only
    rw [dm k (by omega), Option.bind_some]
  obtain ⟨u, hu, hus⟩ : ∃ u : ByteArray, (∀ k, 300 < k → spec_DrawReadMotion.f k src = some u) ∧ u.size ≤ 4000 := by
    by_cases c0 : v3 = 0
    · obtain ⟨u, p4, s4, m1, -, m3⟩ := damage_some hb g3 (motTxt a b c d x y) (by omega)
      refine ⟨u, fun k hk => ?_, by omega⟩
      unfold spec_DrawReadMotion.f
      rw [d0 k (by omega), Option.bind_some]; dsimp only
      rw [dm k (by omega), Option.bind_some]; dsimp only
      rw [(t1 k (by omega)).1, Option.bind_some, e3, Option.bind_some]; dsimp only
      rw [if_pos c0, m1, Option.bind_some]
    · refine ⟨motTxt a b c d x y, fun k hk => ?_, by omega⟩
      unfold spec_DrawReadMotion.f
      rw [d0 k (by omega), Option.bind_some]; dsimp only
      rw [dm k (by omega), Option.bind_some]; dsimp only
      rw [(t1 k (by omega)).1, Option.bind_some, e3, Option.bind_some]; dsimp only
      rw [if_neg c0]
  obtain ⟨m, hm⟩ : ∃ m : Nat, m = 5000000 := ⟨_, rfl⟩
  obtain ⟨r1, r2, r3, r4, r5, r6, rt, hr, hr1, hr2⟩ : ∃ r1 r2 r3 r4 r5 r6 rt, impl_ReadMotion.f (m + 2) (motTxt a b c d x y) = some (r1, r2, r3, r4, r5, r6, rt) ∧ (OkM a b c d x y → (r1, r2, r3, r4, r5, r6, rt) = (a, b, c, d, x, y, true)) ∧ (¬ OkM a b c d x y → rt = false) := by
    by_cases h : OkM a b c d x y
    · exact ⟨a, b, c, d, x, y, true, ReadMotion_text h (by omega), fun _ => rfl, fun e => absurd h e⟩
    · obtain ⟨⟨z1, z2, z3, z4, z5, z6, zt⟩, -, q⟩ := ReadMotion_both (motTxt a b c d x y) (by omega) (k := m + 2) (by omega)
      refine ⟨z1, z2, z3, z4, z5, z6, zt, q, fun e => absurd e h, fun _ => ?_⟩
      cases zt with
      | false => rfl
      | true =>
        obtain ⟨w1, w2⟩ := ReadMotion_back (by omega) (by omega) q
        have h2 := congrArg LB w2
        rw [LB_motTxt w1] at h2
        unfold motTxt at h2
        rw [if_neg h] at h2
        simp [LB] at h2
  obtain ⟨⟨z1, z2, z3, z4, z5, z6, zt⟩, y1, y2⟩ := ReadMotion_both u (by omega) (k := m + 2) (by omega)
  obtain ⟨vx, vy, vd, ve, hc⟩ : ∃ vx vy vd ve, cenR a b c d x y = (vx, vy, vd, ve) := ⟨_, _, _, _, rfl⟩
  have k1 := impl_CentreOf_eq a b c d x y (k := m + 2) (by omega)
  have k2 := spec_CentreOf_eq a b c d x y (k := m + 2) (by omega)
  rw [hc] at k1 k2
  have hend : laws_FnCentres.j0 (m + 2) vd ve false a b c d x y vx vy = some true := by
    rw [show m + 2 = (m + 1) + 1 from rfl, laws_FnCentres.j0, if_neg (by decide)]
    by_cases c0 : ve = 0
    · rw [if_pos c0]
      unfold cenR at hc
      by_cases h : OkM a b c d x y
      · rw [if_pos h] at hc
        by_cases hq : a * d - b * c = 1 ∧ ¬ (a = 1 ∧ b = 0 ∧ c = 0 ∧ d = 1)
        · rw [if_pos hq] at hc
          by_cases hv : IsV (Int.tdiv (cX a b c d x y) (cG a b c d x y)) (Int.tdiv (cY a b c d x y) (cG a b c d x y))
          · rw [if_pos hv] at hc
            simp only [Prod.mk.injEq] at hc
            obtain ⟨q1, q2, q3, -⟩ := hc
            obtain ⟨f1, f2, f3, f4⟩ := centre_fix (a := a) (b := b) (c := c) (d := d) (x := x) (y := y) hq.1 (den_pos h.2.1 hq.1 hq.2)
            rw [q1, q2, q3] at f3 f4
            rw [q3] at f1 f2
            rw [q1, q2] at hv
            have b0 := h.1.1
            have b1 := h.2.2
            obtain ⟨⟨⟨x1, x2⟩, x3, x4⟩, ⟨x5, x6⟩, x7, x8⟩ := b0
            obtain ⟨⟨y1, y2⟩, y3, y4⟩ := b1
            obtain ⟨⟨v1, v2⟩, v3, v4⟩ := hv
            have mb : ∀ p q : Int, -1000 ≤ p → p ≤ 1000 → -1000 ≤ q → q ≤ 1000 → -1000000 ≤ p * q ∧ p * q ≤ 1000000 := fun p q h1 h2 h3 h4 => by
              have : (p * q).natAbs ≤ 1000 * 1000 := by rw [Int.natAbs_mul]; exact Nat.mul_le_mul (by omega) (by omega)
              omega
            have n1 := mb a vx x1 x2 v1 v2
            have n2 := mb b vy x3 x4 v3 v4
            have n3 := mb c vx x5 x6 v1 v2
            have n4 := mb d vy x7 x8 v3 v4
            have n5 := mb vd x (by omega) (by omega) y1 y2
            have n6 := mb vd y (by omega) (by omega) y3 y4
            rw [if_pos (show vd ≥ 1 from f1), w64s (x := a * vx) (by omega) (by omega), w64s (x := b * vy) (by omega) (by omega), w64s (x := vd * x) (by omega) (by omega), w64s (x := a * vx + b * vy) (by omega) (by omega), w64s (x := a * vx + b * vy + vd * x) (by omega) (by omega), if_pos f3, w64s (x := c * vx) (by omega) (by omega), w64s (x := d * vy) (by omega) (by omega), w64s (x := vd * y) (by omega) (by omega), w64s (x := c * vx + d * vy) (by omega) (by omega), w64s (x := c * vx + d * vy + vd * y) (by omega) (by omega), f4]
            simp
          · rw [if_neg hv] at hc; simp only [Prod.mk.injEq] at hc; omega
        · rw [if_neg hq] at hc; simp only [Prod.mk.injEq] at hc; omega
      · rw [if_neg h] at hc; simp only [Prod.mk.injEq] at hc; omega
    · rw [if_neg c0]
  refine ⟨m + 2, ?_⟩
  unfold laws_FnCentres.f laws_big.f
  rw [Option.bind_some, if_neg (by simpa using big), hA _ (by omega), Option.bind_some]; dsimp only
  rw [k1, Option.bind_some, k2, Option.bind_some]; dsimp only
  rw [(t1 _ (by omega)).2, Option.bind_some, hr, Option.bind_some]; dsimp only
  rw [hu _ (by omega), Option.bind_some, y2, Option.bind_some, y1, Option.bind_some]; dsimp only
  rw [if_pos rfl, if_neg (by simp), if_pos rfl, (t1 _ (by omega)).1, Option.bind_some, if_pos rfl]
  have hlast : (if zt = true then ((impl_MotionText.f (m + 2) z1 z2 z3 z4 z5 z6).bind fun t => (laws_FnCentres.j0 (m + 2) vd ve (t.toList != u.toList) a b c d x y vx vy)) else (laws_FnCentres.j0 (m + 2) vd ve false a b c d x y vx vy)) = some true := by
    cases zt with
    | false => rw [if_neg (by decide)]; exact hend
    | true =>
      obtain ⟨w1, w2⟩ := ReadMotion_back (by omega) (by omega) y2
      rw [if_pos rfl, (motTxt_both _ _ _ _ _ _ (k := m + 2) (by omega)).2.1, Option.bind_some, w2, bne_self_eq_false]
      exact hend
  by_cases h : OkM a b c d x y
  · have hq := hr1 h
    simp only [Prod.mk.injEq] at hq
    obtain ⟨rfl, rfl, rfl, rfl, rfl, rfl, rfl⟩ := hq
    have ne : ((motTxt r1 r2 r3 r4 r5 r6).toList != ([] : List UInt8)) = true := by
      rw [bne_iff_ne, tl_LB, LB_motTxt h]
      simp
    rw [ne]
    simpa using hlast
  · obtain rfl := hr2 h
    have ne : ((motTxt a b c d x y).toList != ([] : List UInt8)) = false := by
      unfold motTxt
      rw [if_neg h, tl_LB]; rfl
    rw [ne]
    simpa using hlast

end Go.Proofs.YtnblfcibgokccaaGreatDoor.Pure
