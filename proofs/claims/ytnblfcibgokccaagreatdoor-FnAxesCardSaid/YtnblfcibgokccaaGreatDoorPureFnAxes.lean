/- FnAxes: for all drawn matrices and texts the program and the reference answer alike; a reflection leaves its axis, and a matrix is found back from its text. -/
import Derived.Test.YtnblfcibgokccaaGreatDoorAid
import Derived.Test.YtnblfcibgokccaaGreatDoorLAABasic
import Derived.Test.YtnblfcibgokccaaGreatDoorLAPPoints
import Derived.Test.YtnblfcibgokccaaGreatDoorLAPbSuit
import Derived.Test.YtnblfcibgokccaaGreatDoorLAYaDraw
import Derived.Test.YtnblfcibgokccaaGreatDoorLAZoaBytes
import Derived.Test.YtnblfcibgokccaaGreatDoorLAZrMotiontext
import Derived.Test.YtnblfcibgokccaaGreatDoorLAZtRead
import Derived.Test.YtnblfcibgokccaaGreatDoorLAZuReadvec
import Derived.Test.YtnblfcibgokccaaGreatDoorLAZxMattext
import Derived.Test.YtnblfcibgokccaaGreatDoorLAZxaAxes
import Derived.Test.YtnblfcibgokccaaGreatDoorLAZzbFriezedraw
import Derived.Test.YtnblfcibgokccaaGreatDoorPAx10
import Derived.Test.YtnblfcibgokccaaGreatDoorPAx3
import Derived.Test.YtnblfcibgokccaaGreatDoorPAx4
import Derived.Test.YtnblfcibgokccaaGreatDoorPAx5
import Derived.Test.YtnblfcibgokccaaGreatDoorPAx6
import Derived.Test.YtnblfcibgokccaaGreatDoorPAx7
import Derived.Test.YtnblfcibgokccaaGreatDoorPAx8
import Derived.Test.YtnblfcibgokccaaGreatDoorPAx9
namespace Go.Proofs.YtnblfcibgokccaaGreatDoor.Pure
open Go.RowKit Go.Proofs.YtnblfcibgokccaaGreatDoor.PA Go.Proofs.YtnblfcibgokccaaGreatDoorW.PrintWords Go.Proofs.YtnblfcibgokccaaGreatDoorW.PrintLast Go.Proofs.YtnblfcibgokccaaGreatDoor.Aid
open Go.Proofs.YtnblfcibgokccaaGreatDoor.LA
set_option linter.unusedVariables false
set_option linter.unusedSimpArgs false

theorem FnAxes : laws_FnAxes.Pure := by
  intro src hl hw
  by_cases big : (src.length : Int) > 4096
  · refine ⟨1, ?_⟩
    unfold laws_FnAxes.f laws_big.f
    rw [Option.bind_some, if_pos (by simpa using big)]
  have hb : Byt src := byt_of hw (by omega)
  obtain ⟨s0, d0, g0⟩ := from_ev hb
  obtain ⟨⟨a, b, c, d, p1, s1⟩, dm, g1⟩ := drawMat_some hb g0
  have g1 : Src src p1 s1 := g1
  obtain ⟨v, p2, s2, e2, g2, -, -⟩ := next_some hb g1 (n := 2) (by omega)
  obtain ⟨v3, p3, s3, e3, g3, -, -⟩ := next_some hb g1 (n := 3) (by omega)
  have text : ∀ a b c d : Int, ∃ t : ByteArray, (∀ k, 50 < k → spec_MatText.f k a b c d = some t ∧ impl_MatText.f k a b c d = some t) ∧ t.size ≤ 1000 ∧ (IsM a b c d → t = matTxt a b c d) ∧ (¬ IsM a b c d → t = ⟨#[]⟩) := fun a b c d => by
    by_cases h : IsM a b c d
    · exact ⟨matTxt a b c d, fun k hk => ⟨(MatText_both h hk).1, (MatText_both h hk).2.1⟩, (MatText_both h (k := 51) (by omega)).2.2, fun _ => rfl, fun e => absurd h e⟩
    · refine ⟨⟨#[]⟩, fun k hk => ?_, by decide, fun e => absurd e h, fun _ => rfl⟩
      unfold spec_MatText.f impl_MatText.f
      rw [spec_IsMat_eq, impl_IsMat_eq]
      simp [h]
  -- the matrix of the axis
  obtain ⟨A, B, C, D, hA⟩ : ∃ A B C D, ∀ k, 100 < k → spec_DrawAxisOf.f k src = some (A, B, C, D) := by
    by_cases c0 : v = 0
    · obtain ⟨⟨m0, m1, m2, m3⟩, hm⟩ : ∃ m, spec_l02Multiply.f a b c d 1 0 0 (-1) = some m := ⟨_, rfl⟩
      refine ⟨m0, m1, m2, m3, fun k hk => ?_⟩
      unfold spec_DrawAxisOf.f
      rw [d0 k (by omega), Option.bind_some]; dsimp only
      rw [dm k (by omega), Option.bind_some]; dsimp only
      rw [e2, Option.bind_some]; dsimp only
      rw [if_pos c0, hm, Option.bind_some]
    · refine ⟨a, b, c, d, fun k hk => ?_⟩
      unfold spec_DrawAxisOf.f
      rw [d0 k (by omega), Option.bind_some]; dsimp only
      rw [dm k (by omega), Option.bind_some]; dsimp only
      rw [e2, Option.bind_some]; dsimp only
      rw [if_neg c0]
  -- the text that is read
  obtain ⟨t0, t01, t02, -, -⟩ := text a b c d
  obtain ⟨u, hu, hus⟩ : ∃ u : ByteArray, (∀ k, 100 < k → spec_DrawReadMat.f k src = some u) ∧ u.size ≤ 2000 := by
    by_cases c0 : v3 = 0
    · obtain ⟨u, p4, s4, m1, -, m3⟩ := damage_some hb g3 t0 (by omega)
      refine ⟨u, fun k hk => ?_, by omega⟩
      unfold spec_DrawReadMat.f
      rw [d0 k (by omega), Option.bind_some]; dsimp only
      rw [dm k (by omega), Option.bind_some]; dsimp only
      rw [(t01 k (by omega)).1, Option.bind_some, e3, Option.bind_some]; dsimp only
      rw [if_pos c0, m1, Option.bind_some]
    · refine ⟨t0, fun k hk => ?_, by omega⟩
      unfold spec_DrawReadMat.f
      rw [d0 k (by omega), Option.bind_some]; dsimp only
      rw [dm k (by omega), Option.bind_some]; dsimp only
      rw [(t01 k (by omega)).1, Option.bind_some, e3, Option.bind_some]; dsimp only
      rw [if_neg c0]
  obtain ⟨t, t1, t2, t3, t4⟩ := text A B C D
  obtain ⟨m, hm⟩ : ∃ m : Nat, m = 3000000 := ⟨_, rfl⟩
  -- the text of the matrix, read
  obtain ⟨rA, rB, rC, rD, rt, hr, hr1, hr2⟩ : ∃ rA rB rC rD rt, impl_ReadMat.f (m + 2) t = some (rA, rB, rC, rD, rt) ∧ (IsM A B C D → (rA, rB, rC, rD, rt) = (A, B, C, D, true)) ∧ (¬ IsM A B C D → rt = false) := by
    by_cases h : IsM A B C D
    · obtain rfl := t3 h
      exact ⟨A, B, C, D, true, ReadMat_text h t2 (by omega), fun _ => rfl, fun e => absurd h e⟩
    · obtain rfl := t4 h
      obtain ⟨x1, x2, x3, x4, xt, -, x5⟩ := ReadMat_both ⟨#[]⟩ (by decide) (k := m + 2) (by omega)
      refine ⟨x1, x2, x3, x4, xt, x5, fun e => absurd e h, fun _ => ?_⟩
      cases xt with
      | false => rfl
      | true =>
        have := (ReadMat_back (by decide) (by omega) x5).2
        have h2 := congrArg LB this
        rw [LB_matTxt] at h2
        simp [LB] at h2
  obtain ⟨x1, x2, x3, x4, xt, y1, y2⟩ := ReadMat_both u (by omega) (k := m + 2) (by omega)
  obtain ⟨ax, ay, ae, hax⟩ : ∃ ax ay ae, axisR A B C D = (ax, ay, ae) := ⟨_, _, _, rfl⟩
  have z1 := impl_AxisOf_eq A B C D (k := m + 2) (by omega)
  have z2 := spec_AxisOf_eq A B C D (k := m + 2) (by omega)
  rw [hax] at z1 z2
  -- what is asked behind
  have hend : laws_FnAxes.j0 (m + 2) ae false A B C D ax ay = some true := by
    rw [show m + 2 = (m + 1) + 1 from rfl, laws_FnAxes.j0, if_neg (by decide)]
    by_cases c0 : ae = 0
    · rw [if_pos c0]
      unfold axisR at hax
      by_cases h : IsM A B C D
      · rw [if_pos h] at hax
        by_cases hr : A * D - B * C = -1 ∧ A + D = 0
        · rw [if_pos hr] at hax
          by_cases hv : IsV (AX A B C D).1 (AX A B C D).2
          · rw [if_pos hv] at hax
            simp only [Prod.mk.injEq] at hax
            obtain ⟨q1, q2, -⟩ := hax
            rw [q1, q2] at hv
            obtain ⟨f1, f2, f3⟩ := AX_fix hr.1 hr.2
            rw [q1, q2] at f1 f2 f3
            have b0 := h.1
            have b1 := hv
            obtain ⟨⟨⟨x1, x2⟩, x3, x4⟩, ⟨x5, x6⟩, x7, x8⟩ := b0
            obtain ⟨⟨y1, y2⟩, y3, y4⟩ := b1
            have mb : ∀ p q : Int, -1000 ≤ p → p ≤ 1000 → -1000 ≤ q → q ≤ 1000 → -1000000 ≤ p * q ∧ p * q ≤ 1000000 := fun p q h1 h2 h3 h4 => by
              have : (p * q).natAbs ≤ 1000 * 1000 := by rw [Int.natAbs_mul]; exact Nat.mul_le_mul (by omega) (by omega)
              omega
            have n1 := mb A ax x1 x2 y1 y2
            have n2 := mb B ay x3 x4 y3 y4
            have n3 := mb C ax x5 x6 y1 y2
            have n4 := mb D ay x7 x8 y3 y4
            have ap : impl_ApplyMat.f (m + 1) A B C D ax ay = some (ax, ay, 0) := by
              unfold impl_ApplyMat.f
              rw [impl_IsMat_eq, Option.bind_some, if_pos (by simpa using h), impl_IsVec_eq, Option.bind_some, show m + 1 = m + 1 from rfl, impl_ApplyMat.j0, if_neg (by simpa using hv)]
              unfold impl_Mat_apply.f impl_limited.f
              rw [Option.bind_some]; dsimp only
              rw [w64s (x := A * ax) (by omega) (by omega), w64s (x := B * ay) (by omega) (by omega), w64s (x := C * ax) (by omega) (by omega), w64s (x := D * ay) (by omega) (by omega), w64s (x := A * ax + B * ay) (by omega) (by omega), w64s (x := C * ax + D * ay) (by omega) (by omega), f1, f2, impl_IsVec_eq, Option.bind_some, if_pos (by simpa using hv), Option.bind_some]
            have dv : impl_DivisorOf.f (m + 1) ax ay = some (1, 0) := by
              unfold impl_DivisorOf.f
              rw [within_eq, Option.bind_some, if_pos (by simp; omega), within_eq, Option.bind_some, if_pos (by simp; omega), igcd_eq (m + 1) ax ay (by omega) (by omega) (by omega), f3]
              rfl
            rw [ap, Option.bind_some]; dsimp only
            rw [dv, Option.bind_some]; dsimp only
            simp
          · rw [if_neg hv] at hax; simp only [Prod.mk.injEq] at hax; omega
        · rw [if_neg hr] at hax; simp only [Prod.mk.injEq] at hax; omega
      · rw [if_neg h] at hax; simp only [Prod.mk.injEq] at hax; omega
    · rw [if_neg c0]
  refine ⟨m + 2, ?_⟩
  unfold laws_FnAxes.f laws_big.f
  rw [Option.bind_some, if_neg (by simpa using big), hA _ (by omega), Option.bind_some]; dsimp only
  rw [z1, Option.bind_some, z2, Option.bind_some]; dsimp only
  rw [(t1 _ (by omega)).2, Option.bind_some, hr, Option.bind_some]; dsimp only
  rw [hu _ (by omega), Option.bind_some, y2, Option.bind_some, y1, Option.bind_some]; dsimp only
  rw [if_pos rfl, if_neg (by simp), (t1 _ (by omega)).1, Option.bind_some, if_pos rfl]
  have hlast : (if xt = true then ((impl_MatText.f (m + 2) x1 x2 x3 x4).bind fun t516 => (laws_FnAxes.j0 (m + 2) ae (t516.toList != u.toList) A B C D ax ay)) else (laws_FnAxes.j0 (m + 2) ae false A B C D ax ay)) = some true := by
    cases xt with
    | false => rw [if_neg (by decide)]; exact hend
    | true =>
      obtain ⟨w1, w2⟩ := ReadMat_back (by omega) (by omega) y2
      rw [if_pos rfl, (MatText_both w1 (k := m + 2) (by omega)).2.1, Option.bind_some, w2, bne_self_eq_false]
      exact hend
  by_cases h : IsM A B C D
  · have hq := hr1 h
    simp only [Prod.mk.injEq] at hq
    obtain ⟨rfl, rfl, rfl, rfl, rfl⟩ := hq
    have ne : (t.toList != ([] : List UInt8)) = true := by
      obtain rfl := t3 h
      rw [bne_iff_ne, tl_LB, LB_matTxt]
      simp
    rw [ne]
    simpa using hlast
  · obtain rfl := hr2 h
    have ne : (t.toList != ([] : List UInt8)) = false := by
      obtain rfl := t4 h
      rw [tl_LB]; rfl
    rw [ne]
    simpa using hlast

end Go.Proofs.YtnblfcibgokccaaGreatDoor.Pure
