/- Plain lemmas on the centre of a rotation, and on drawn motions. -/
import Derived.Test.YtnblfcibgokccaaGreatDoorAid
import Derived.Test.YtnblfcibgokccaaGreatDoorPCx0
import Derived.Test.YtnblfcibgokccaaGreatDoorLCABasic
import Derived.Test.YtnblfcibgokccaaGreatDoorLCOHermite
import Derived.Test.YtnblfcibgokccaaGreatDoorLCPPoints
import Derived.Test.YtnblfcibgokccaaGreatDoorLCPbSuit
import Derived.Test.YtnblfcibgokccaaGreatDoorLCYaDraw
import Derived.Test.YtnblfcibgokccaaGreatDoorLCYbaLats
import Derived.Test.YtnblfcibgokccaaGreatDoorLCZrMotiontext
import Derived.Test.YtnblfcibgokccaaGreatDoorLCZxaAxes
import Derived.Test.YtnblfcibgokccaaGreatDoorLCZxbMotext
import Derived.Test.YtnblfcibgokccaaGreatDoorPCx0
import Derived.Test.YtnblfcibgokccaaGreatDoorPCx10
import Derived.Test.YtnblfcibgokccaaGreatDoorPCx4
import Derived.Test.YtnblfcibgokccaaGreatDoorPCx6
import Derived.Test.YtnblfcibgokccaaGreatDoorPCx7
import Derived.Test.YtnblfcibgokccaaGreatDoorPCx8
import Derived.Test.YtnblfcibgokccaaGreatDoorPCx9
namespace Go.Proofs.YtnblfcibgokccaaGreatDoor.LC
open Go.RowKit Go.Proofs.YtnblfcibgokccaaGreatDoor.PC Go.Proofs.YtnblfcibgokccaaGreatDoorW.PrintWords Go.Proofs.YtnblfcibgokccaaGreatDoorW.PrintLast Go.Proofs.YtnblfcibgokccaaGreatDoor.Aid
set_option linter.unusedVariables false
set_option linter.unusedSimpArgs false

/-- The centre's numbers, not yet shortened. -/
def cX (a b c d x y : Int) : Int := (1 - d) * x + b * y
def cY (a b c d x y : Int) : Int := c * x + (1 - a) * y
def cG (a b c d x y : Int) : Nat := Int.gcd (Int.gcd (cX a b c d x y) (cY a b c d x y)) (2 - a - d)
theorem cen_bounds {a b c d x y : Int} (hm : IsV a b ∧ IsV c d) (hv : IsV x y) : (-2002000 ≤ cX a b c d x y ∧ cX a b c d x y ≤ 2002000) ∧ (-2002000 ≤ cY a b c d x y ∧ cY a b c d x y ≤ 2002000) ∧
    (-1001000 ≤ (1 - d) * x ∧ (1 - d) * x ≤ 1001000) ∧ (-1001000 ≤ b * y ∧ b * y ≤ 1001000) ∧ (-1001000 ≤ c * x ∧ c * x ≤ 1001000) ∧ (-1001000 ≤ (1 - a) * y ∧ (1 - a) * y ≤ 1001000) := by
  obtain ⟨⟨⟨x1, x2⟩, x3, x4⟩, ⟨x5, x6⟩, x7, x8⟩ := hm
  obtain ⟨⟨y1, y2⟩, y3, y4⟩ := hv
  have mb : ∀ p q : Int, -1001 ≤ p → p ≤ 1001 → -1000 ≤ q → q ≤ 1000 → -1001000 ≤ p * q ∧ p * q ≤ 1001000 := fun p q h1 h2 h3 h4 => by
    have : (p * q).natAbs ≤ 1001 * 1000 := by rw [Int.natAbs_mul]; exact Nat.mul_le_mul (by omega) (by omega)
    omega
  have n1 := mb (1 - d) x (by omega) (by omega) y1 y2
  have n2 := mb b y (by omega) (by omega) y3 y4
  have n3 := mb c x (by omega) (by omega) y1 y2
  have n4 := mb (1 - a) y (by omega) (by omega) y3 y4
  unfold cX cY
  exact ⟨by omega, by omega, n1, n2, n3, n4⟩
/-- What both sides answer for the centre of a motion. -/
def cenR (a b c d x y : Int) : Int × Int × Int × Int :=
  if OkM a b c d x y then (if a * d - b * c = 1 ∧ ¬ (a = 1 ∧ b = 0 ∧ c = 0 ∧ d = 1) then
    (if IsV (Int.tdiv (cX a b c d x y) (cG a b c d x y)) (Int.tdiv (cY a b c d x y) (cG a b c d x y)) then (Int.tdiv (cX a b c d x y) (cG a b c d x y), Int.tdiv (cY a b c d x y) (cG a b c d x y), Int.tdiv (2 - a - d) (cG a b c d x y), 0) else (0, 0, 0, 3)) else (0, 0, 0, 5)) else (0, 0, 0, 1)
theorem den_pos {a b c d : Int} (ht : Turn a b c d) (h1 : a * d - b * c = 1) (hu : ¬ (a = 1 ∧ b = 0 ∧ c = 0 ∧ d = 1)) : 1 ≤ 2 - a - d ∧ 2 - a - d ≤ 4 := by
  rcases ht with ⟨_, ht⟩ | ⟨h, _⟩
  · rcases ht with h | h | h | ⟨h2, h3, h4⟩
    · omega
    · omega
    · omega
    · subst h2 h3 h4
      have := sq_one (a := a) (by omega)
      omega
  · omega
theorem cG_pos {a b c d x y : Int} (h : 1 ≤ 2 - a - d ∧ 2 - a - d ≤ 4) : 1 ≤ cG a b c d x y ∧ cG a b c d x y ≤ 4 := by
  have hd : cG a b c d x y ∣ (2 - a - d).natAbs := Int.natAbs_dvd_natAbs.2 (Int.gcd_dvd_right (Int.gcd (cX a b c d x y) (cY a b c d x y) : Int) (2 - a - d))
  have h1 := Nat.le_of_dvd (by omega) hd
  have h2 : cG a b c d x y ≠ 0 := fun e => by rw [e] at hd; have := Nat.eq_zero_of_zero_dvd hd; omega
  omega
theorem sg_eq (k : Nat) (a b : Int) (hk : 3000000 < k) (ha : a.natAbs ≤ 3000000) (hb : b.natAbs ≤ 2500000) : spec_l01Divisor.f k a b = some (Int.gcd a b : Int) := spec_gcd_eq k a b (by omega) (by omega) (by omega)
theorem cgcd_eq : ∀ (k : Nat) (a b : Int), b.natAbs < k → a.natAbs ≤ 4611686018427387904 → b.natAbs ≤ 4611686018427387904 → impl_gcd.f k a b = some (Int.gcd a b : Int)
  | 0, _, _, h, _, _ => absurd h (Nat.not_lt_zero _)
  | k + 1, a, b, h, ha, hb => by
    unfold impl_gcd.f impl_gcd.l0
    by_cases e : b = 0
    · rw [if_pos e, e, mx_abs (by omega) (by omega), Int.gcd_zero]
    · rw [if_neg e]
      have h1 : (Int.tmod a b).natAbs < b.natAbs := by rw [Int.natAbs_tmod]; exact Nat.mod_lt _ (by omega)
      have := cgcd_eq k b (Int.tmod a b) (by omega) hb (by omega)
      rw [gcd_step] at this
      exact this
theorem gcd_le {a b : Int} {n : Nat} (ha : a.natAbs ≤ n) (hb : b.natAbs ≤ n) : Int.gcd a b ≤ n := by
  by_cases h : a = 0
  · subst h; rw [Int.gcd_zero_left]; exact hb
  · have := Nat.le_of_dvd (by omega) (Int.natAbs_dvd_natAbs.2 (Int.gcd_dvd_left a b))
    simp at this
    omega
theorem tdiv_small {a : Int} {g : Nat} {n : Nat} (ha : a.natAbs ≤ n) : (Int.tdiv a (g : Int)).natAbs ≤ n := by
  rw [Int.natAbs_tdiv]
  exact Nat.le_trans (Nat.div_le_self _ _) ha
theorem impl_centre_eq {a b c d x y : Int} (hm : IsV a b ∧ IsV c d) (hv : IsV x y) (hd : 1 ≤ 2 - a - d ∧ 2 - a - d ≤ 4) {k : Nat} (hk : 4000000 < k) : impl_Motion_centre.f k a b c d x y = some (Int.tdiv (cX a b c d x y) (cG a b c d x y), Int.tdiv (cY a b c d x y) (cG a b c d x y), Int.tdiv (2 - a - d) (cG a b c d x y)) := by
  obtain ⟨n1, n2, n3, n4, n5, n6⟩ := cen_bounds hm hv
  have hg := cG_pos (a := a) (b := b) (c := c) (d := d) (x := x) (y := y) hd
  obtain ⟨⟨⟨x1, x2⟩, x3, x4⟩, ⟨x5, x6⟩, x7, x8⟩ := hm
  unfold impl_Motion_centre.f
  have e1 : wrap64 (wrap64 (wrap64 (1 - d) * x) + wrap64 (b * y)) = cX a b c d x y := by
    rw [w64s (x := 1 - d) (by omega) (by omega), w64s (x := (1 - d) * x) (by omega) (by omega), w64s (x := b * y) (by omega) (by omega), w64s (by omega) (by omega)]; rfl
  have e2 : wrap64 (wrap64 (c * x) + wrap64 (wrap64 (1 - a) * y)) = cY a b c d x y := by
    rw [w64s (x := 1 - a) (by omega) (by omega), w64s (x := (1 - a) * y) (by omega) (by omega), w64s (x := c * x) (by omega) (by omega), w64s (by omega) (by omega)]; rfl
  have e3 : wrap64 (wrap64 (2 - a) - d) = 2 - a - d := by rw [w64s (x := 2 - a) (by omega) (by omega), w64s (by omega) (by omega)]
  have hgl := gcd_le (a := cX a b c d x y) (b := cY a b c d x y) (n := 2002000) (by omega) (by omega)
  rw [e1, e2, e3, cgcd_eq k _ _ (by omega) (by omega) (by omega), Option.bind_some, cgcd_eq k _ _ (by omega) (by omega) (by omega), Option.bind_some]
  have hG : Int.gcd (Int.gcd (cX a b c d x y) (cY a b c d x y)) (2 - a - d) = cG a b c d x y := rfl
  rw [hG, if_neg (by omega)]
  have t1 := tdiv_small (a := cX a b c d x y) (g := cG a b c d x y) (n := 2002000) (by omega)
  have t2 := tdiv_small (a := cY a b c d x y) (g := cG a b c d x y) (n := 2002000) (by omega)
  have t3 := tdiv_small (a := 2 - a - d) (g := cG a b c d x y) (n := 4) (by omega)
  rw [w64s (by omega) (by omega), w64s (by omega) (by omega), w64s (by omega) (by omega)]
theorem spec_centre_eq {a b c d x y : Int} (hm : IsV a b ∧ IsV c d) (hv : IsV x y) (h1 : a * d - b * c = 1) (hd : 1 ≤ 2 - a - d ∧ 2 - a - d ≤ 4) {k : Nat} (hk : 4000000 < k) : spec_l05Centre.f k a b c d x y = some (Int.tdiv (cX a b c d x y) (cG a b c d x y), Int.tdiv (cY a b c d x y) (cG a b c d x y), Int.tdiv (2 - a - d) (cG a b c d x y)) := by
  obtain ⟨n1, n2, n3, n4, n5, n6⟩ := cen_bounds hm hv
  have hg := cG_pos (a := a) (b := b) (c := c) (d := d) (x := x) (y := y) hd
  obtain ⟨⟨⟨x1, x2⟩, x3, x4⟩, ⟨x5, x6⟩, x7, x8⟩ := hm
  have mb : ∀ p q : Int, -1001 ≤ p → p ≤ 1001 → -1001 ≤ q → q ≤ 1001 → -1002001 ≤ p * q ∧ p * q ≤ 1002001 := fun p q h1 h2 h3 h4 => by
    have : (p * q).natAbs ≤ 1001 * 1001 := by rw [Int.natAbs_mul]; exact Nat.mul_le_mul (by omega) (by omega)
    omega
  have m1 := mb (1 - a) (1 - d) (by omega) (by omega) (by omega) (by omega)
  have m2 := mb b c (by omega) (by omega) (by omega) (by omega)
  unfold spec_l05Centre.f
  have b1 : wrap64 (-b) = -b := w64s (by omega) (by omega)
  have c1 : wrap64 (-c) = -c := w64s (by omega) (by omega)
  have a1 : wrap64 (1 - a) = 1 - a := w64s (by omega) (by omega)
  have d1 : wrap64 (1 - d) = 1 - d := w64s (by omega) (by omega)
  have q1 : -b * y = -(b * y) := Int.neg_mul _ _
  have q2 : -c * x = -(c * x) := Int.neg_mul _ _
  have q3 : -b * -c = b * c := Int.neg_mul_neg _ _
  have e1 : wrap64 (wrap64 ((1 - d) * x) - wrap64 (-b * y)) = cX a b c d x y := by
    rw [q1, w64s (x := (1 - d) * x) (by omega) (by omega), w64s (x := -(b * y)) (by omega) (by omega), w64s (by omega) (by omega)]; unfold cX; omega
  have e2 : wrap64 (wrap64 ((1 - a) * y) - wrap64 (-c * x)) = cY a b c d x y := by
    rw [q2, w64s (x := (1 - a) * y) (by omega) (by omega), w64s (x := -(c * x)) (by omega) (by omega), w64s (by omega) (by omega)]; unfold cY; omega
  have e3 : wrap64 (wrap64 ((1 - a) * (1 - d)) - wrap64 (-b * -c)) = 2 - a - d := by
    have z : (1 - a) * (1 - d) = 1 - a - d + a * d := by grind
    rw [q3, w64s (x := (1 - a) * (1 - d)) (by omega) (by omega), w64s (x := b * c) (by omega) (by omega), w64s (by omega) (by omega)]; omega
  have hgl := gcd_le (a := cX a b c d x y) (b := cY a b c d x y) (n := 2002000) (by omega) (by omega)
  rw [a1, b1, c1, d1, e1, e2, e3, spec_gcd_eq k _ _ (by omega) (by omega) (by omega), Option.bind_some, spec_gcd_eq k _ _ (by omega) (by omega) (by omega), Option.bind_some]
  have hG : Int.gcd (Int.gcd (cX a b c d x y) (cY a b c d x y)) (2 - a - d) = cG a b c d x y := rfl
  rw [hG, if_neg (by omega), if_neg (by omega)]
  have t1 := tdiv_small (a := cX a b c d x y) (g := cG a b c d x y) (n := 2002000) (by omega)
  have t2 := tdiv_small (a := cY a b c d x y) (g := cG a b c d x y) (n := 2002000) (by omega)
  have t3 := tdiv_small (a := 2 - a - d) (g := cG a b c d x y) (n := 4) (by omega)
  rw [w64s (by omega) (by omega), w64s (by omega) (by omega), w64s (by omega) (by omega)]
theorem impl_CentreOf_eq (a b c d x y : Int) {k : Nat} (hk : 4000000 < k) : impl_CentreOf.f k a b c d x y = some (cenR a b c d x y) := by
  unfold impl_CentreOf.f cenR
  rw [impl_IsMotion_eq a b c d x y (by omega), Option.bind_some]
  by_cases h : OkM a b c d x y
  · have h0 := h
    unfold OkM at h0
    rw [if_pos (decide_eq_true h0), if_pos h]
    obtain ⟨⟨hm, hdt⟩, ht, hv⟩ := h
    have hkind : ∃ q, impl_Motion_kind.f a b c d x y = some q ∧ (q = 2 ↔ (a * d - b * c = 1 ∧ ¬ (a = 1 ∧ b = 0 ∧ c = 0 ∧ d = 1))) := by
      unfold impl_Motion_kind.f impl_unit.f impl_Mat_det.f
      simp only [Option.bind_some, Bool.and_eq_true, beq_iff_eq]
      rw [det_w hm]
      by_cases c1 : a = 1 ∧ b = 0 ∧ c = 0 ∧ d = 1
      · obtain ⟨rfl, rfl, rfl, rfl⟩ := c1
        by_cases c2 : x = 0 ∧ y = 0
        · exact ⟨0, by simp [c2], by simp⟩
        · exact ⟨1, by simp [c2], by simp⟩
      · rw [if_neg (fun e => c1 e.1), if_neg c1]
        by_cases c2 : a * d - b * c = 1
        · exact ⟨2, by simp [c2], by simp [c2, c1]⟩
        · rw [if_neg c2]
          unfold impl_Motion_times.f impl_Mat_times.f impl_Mat_apply.f impl_Vec_add.f
          simp only [Option.bind_some]
          split
          · exact ⟨3, rfl, by simp [c2]⟩
          · exact ⟨4, rfl, by simp [c2]⟩
    obtain ⟨q, q1, q2⟩ := hkind
    rw [q1, Option.bind_some]
    by_cases hr : a * d - b * c = 1 ∧ ¬ (a = 1 ∧ b = 0 ∧ c = 0 ∧ d = 1)
    · rw [if_pos (q2.2 hr), if_pos hr, impl_centre_eq hm hv (den_pos ht hr.1 hr.2) hk, Option.bind_some]; dsimp only
      rw [impl_IsVec_eq, Option.bind_some]
      by_cases hi : IsV (Int.tdiv (cX a b c d x y) (cG a b c d x y)) (Int.tdiv (cY a b c d x y) (cG a b c d x y))
      · rw [if_pos (by simpa using hi), if_pos hi]
      · rw [if_neg (by simpa using hi), if_neg hi]
    · rw [if_neg (fun e => hr (q2.1 e)), if_neg hr]
  · have h0 := h
    unfold OkM at h0
    rw [if_neg (fun e => h0 (of_decide_eq_true e)), if_neg h]
theorem spec_CentreOf_eq (a b c d x y : Int) {k : Nat} (hk : 4000000 < k) : spec_CentreOf.f k a b c d x y = some (cenR a b c d x y) := by
  unfold spec_CentreOf.f cenR
  rw [spec_IsMotion_eq a b c d x y (by omega), Option.bind_some]
  by_cases h : OkM a b c d x y
  · have h0 := h
    unfold OkM at h0
    rw [if_pos (decide_eq_true h0), if_pos h]
    obtain ⟨⟨hm, hdt⟩, ht, hv⟩ := h
    have hkind : ∃ q, spec_l05Kind.f k a b c d x y = some q ∧ (q = 2 ↔ (a * d - b * c = 1 ∧ ¬ (a = 1 ∧ b = 0 ∧ c = 0 ∧ d = 1))) := by
      obtain ⟨k, rfl⟩ : ∃ j, k = j + 1 := ⟨k - 1, by omega⟩
      unfold spec_l05Kind.f spec_l02Det.f
      simp only [Option.bind_some]
      rw [det_w hm]
      by_cases c2 : a * d - b * c = -1
      · rw [if_pos c2]
        obtain ⟨⟨t1, t2⟩, ht⟩ : ∃ t, spec_l05Twice.f a b c d x y = some t := ⟨_, rfl⟩
        rw [ht, Option.bind_some]
        unfold spec_l05Kind.j0 spec_l02Det.f
        simp only [Option.bind_some]
        rw [det_w hm, if_pos c2]
        split
        · exact ⟨3, rfl, by simp [c2]⟩
        · exact ⟨4, rfl, by simp [c2]⟩
      · rw [if_neg c2]
        unfold spec_l05Kind.j0 spec_l02Det.f spec_l02Unit.f
        simp only [Option.bind_some]
        rw [det_w hm, if_neg (by decide), if_neg c2]
        have c3 : a * d - b * c = 1 := by omega
        by_cases c1 : a = 1 ∧ b = 0 ∧ c = 0 ∧ d = 1
        · obtain ⟨rfl, rfl, rfl, rfl⟩ := c1
          by_cases c4 : x = 0 ∧ y = 0
          · exact ⟨0, by simp [c4], by simp⟩
          · refine ⟨1, ?_, by simp⟩
            have : (!(x == 0) || !(y == 0)) = true := by
              rw [Bool.or_eq_true, Bool.not_eq_true', Bool.not_eq_true', beq_eq_false_iff_ne, beq_eq_false_iff_ne]
              by_cases hx : x = 0
              · exact .inr fun hy => c4 ⟨hx, hy⟩
              · exact .inl hx
            simp [this]
        · refine ⟨2, ?_, by simp [c3, c1]⟩
          have : (!(a == 1) || (!(b == 0) || (!(c == 0) || !(d == 1)))) = true := by
            simp only [Bool.or_eq_true, Bool.not_eq_true', beq_eq_false_iff_ne]
            by_cases h1 : a = 1
            · by_cases h2 : b = 0
              · by_cases h3 : c = 0
                · exact .inr (.inr (.inr fun h4 => c1 ⟨h1, h2, h3, h4⟩))
                · exact .inr (.inr (.inl h3))
              · exact .inr (.inl h2)
            · exact .inl h1
          rw [if_pos this]
    obtain ⟨q, q1, q2⟩ := hkind
    rw [q1, Option.bind_some]
    by_cases hr : a * d - b * c = 1 ∧ ¬ (a = 1 ∧ b = 0 ∧ c = 0 ∧ d = 1)
    · rw [if_pos (q2.2 hr), if_pos hr, spec_centre_eq hm hv hr.1 (den_pos ht hr.1 hr.2) hk, Option.bind_some]; dsimp only
      rw [spec_IsVec_eq, Option.bind_some]
      by_cases hi : IsV (Int.tdiv (cX a b c d x y) (cG a b c d x y)) (Int.tdiv (cY a b c d x y) (cG a b c d x y))
      · rw [if_pos (by simpa using hi), if_pos hi]
      · rw [if_neg (by simpa using hi), if_neg hi]
    · rw [if_neg (fun e => hr (q2.1 e)), if_neg hr]
  · have h0 := h
    unfold OkM at h0
    rw [if_neg (fun e => h0 (of_decide_eq_true e)), if_neg h]
/-- A rotation leaves its centre. -/
theorem centre_fix {a b c d x y : Int} (h1 : a * d - b * c = 1) (hd : 1 ≤ 2 - a - d ∧ 2 - a - d ≤ 4) :
    1 ≤ Int.tdiv (2 - a - d) (cG a b c d x y) ∧ Int.tdiv (2 - a - d) (cG a b c d x y) ≤ 4 ∧
    a * Int.tdiv (cX a b c d x y) (cG a b c d x y) + b * Int.tdiv (cY a b c d x y) (cG a b c d x y) + Int.tdiv (2 - a - d) (cG a b c d x y) * x = Int.tdiv (cX a b c d x y) (cG a b c d x y) ∧
    c * Int.tdiv (cX a b c d x y) (cG a b c d x y) + d * Int.tdiv (cY a b c d x y) (cG a b c d x y) + Int.tdiv (2 - a - d) (cG a b c d x y) * y = Int.tdiv (cY a b c d x y) (cG a b c d x y) := by
  have hg := cG_pos (a := a) (b := b) (c := c) (d := d) (x := x) (y := y) hd
  have g1 : (cG a b c d x y : Int) ∣ (Int.gcd (cX a b c d x y) (cY a b c d x y) : Int) := Int.gcd_dvd_left ..
  have g2 : (cG a b c d x y : Int) ∣ (2 - a - d) := Int.gcd_dvd_right ..
  have g3 : (cG a b c d x y : Int) ∣ cX a b c d x y := Int.dvd_trans g1 (Int.gcd_dvd_left ..)
  have g4 : (cG a b c d x y : Int) ∣ cY a b c d x y := Int.dvd_trans g1 (Int.gcd_dvd_right ..)
  generalize hG : cG a b c d x y = G at *
  obtain ⟨p, hp⟩ := g3
  obtain ⟨q, hq⟩ := g4
  obtain ⟨r, hr⟩ := g2
  have G0 : (G : Int) ≠ 0 := by omega
  have t1 : Int.tdiv (cX a b c d x y) (G : Int) = p := by rw [hp, Int.mul_tdiv_cancel_left _ G0]
  have t2 : Int.tdiv (cY a b c d x y) (G : Int) = q := by rw [hq, Int.mul_tdiv_cancel_left _ G0]
  have t3 : Int.tdiv (2 - a - d) (G : Int) = r := by rw [hr, Int.mul_tdiv_cancel_left _ G0]
  rw [t1, t2, t3]
  have hr1 : 1 ≤ r := by
    rcases Int.lt_or_le r 1 with h | h
    · have : (G : Int) * r ≤ 0 := Int.mul_nonpos_of_nonneg_of_nonpos (by omega) (by omega)
      omega
    · exact h
  have hr4 : r ≤ 4 := by
    have : 1 * r ≤ (G : Int) * r := Int.mul_le_mul_of_nonneg_right (by omega) (by omega)
    omega
  refine ⟨hr1, hr4, Int.eq_of_mul_eq_mul_left G0 ?_, Int.eq_of_mul_eq_mul_left G0 ?_⟩
  · have e : a * cX a b c d x y + b * cY a b c d x y + (2 - a - d) * x = cX a b c d x y := by unfold cX cY; grind
    rw [← hp]
    conv => rhs; rw [← e, hp, hq, hr]
    grind
  · have e : c * cX a b c d x y + d * cY a b c d x y + (2 - a - d) * y = cY a b c d x y := by unfold cX cY; grind
    rw [← hq]
    conv => rhs; rw [← e, hp, hq, hr]
    grind
theorem mats_c {fr : Int} (hf : 0 ≤ fr ∧ fr ≤ 1) (k : Nat) : spec_l04Mats.f (k + 100) fr = some ((pmL fr).map fun m => (⟨m.1, m.2.1, m.2.2.1, m.2.2.2⟩ : S25)) := by
  rcases fr01 hf with rfl | rfl
  · kernel_rfl
  · kernel_rfl
theorem drawPm_some {src : List Int} (hb : Byt src) {p s : Int} (hs : Src src p s) (fr : Int) (hf : 0 ≤ fr ∧ fr ≤ 1) : ∃ r, (∀ k, 100 < k → spec_l04DrawMat.f k src p s fr = some r) ∧ DrawnM src r := by
  obtain ⟨L, hL⟩ : ∃ L, L = (pmL fr).map fun m => (⟨m.1, m.2.1, m.2.2.1, m.2.2.2⟩ : S25) := ⟨_, rfl⟩
  have l23 : 1 ≤ L.length ∧ L.length ≤ 12 := by
    rw [hL, List.length_map]
    rcases fr01 hf with rfl | rfl <;> decide +kernel
  have hL : ∀ k, 100 < k → spec_l04Mats.f k fr = some L := fun k hk => by
    obtain ⟨j, rfl⟩ : ∃ j, k = j + 100 := ⟨k - 100, by omega⟩
    rw [hL]; exact mats_c hf j
  obtain ⟨u, p1, s1, e1, g1, u0, u1⟩ := next_some hb hs (n := (L.length : Int)) (by omega)
  have u1 := u1 (by omega)
  refine ⟨((rd_T25 L u).f0, (rd_T25 L u).f1, (rd_T25 L u).f2, (rd_T25 L u).f3, p1, s1), fun k hk => ?_, g1⟩
  unfold spec_l04DrawMat.f
  rw [spec_IsFrame_eq, Option.bind_some, if_pos (by simpa using hf), hL k hk, Option.bind_some, e1, Option.bind_some]; dsimp only
  rw [if_pos u0, if_pos u1]
/-- A drawn motion, and the source behind it. -/
def DrawnMo (src : List Int) (r : Int × Int × Int × Int × Int × Int × Int × Int) : Prop := Src src r.2.2.2.2.2.2.1 r.2.2.2.2.2.2.2
theorem drawMo_j0 {src : List Int} (hb : Byt src) {p s : Int} (hs : Src src p s) (a b c d : Int) : ∃ r, (∀ k, 1 < k → spec_l05Draw.j0 k src p s a b c d = some r) ∧ DrawnMo src r := by
  obtain ⟨u, p1, s1, e1, g1, -, -⟩ := next_some hb hs (n := 5) (by omega)
  by_cases c0 : u = 0
  · refine ⟨(a, b, c, d, 0, 0, p1, s1), fun k hk => ?_, g1⟩
    obtain ⟨k, rfl⟩ : ∃ j, k = j + 1 := ⟨k - 1, by omega⟩
    rw [spec_l05Draw.j0, e1, Option.bind_some]; dsimp only
    rw [if_pos c0]
  · obtain ⟨x, y, p2, s2, e2, g2, -, -⟩ := vec_some hb g1
    refine ⟨(a, b, c, d, x, y, p2, s2), fun k hk => ?_, g2⟩
    obtain ⟨k, rfl⟩ : ∃ j, k = j + 1 := ⟨k - 1, by omega⟩
    rw [spec_l05Draw.j0, e1, Option.bind_some]; dsimp only
    rw [if_neg c0, e2, Option.bind_some]
theorem drawMo_some {src : List Int} (hb : Byt src) {p s : Int} (hs : Src src p s) : ∃ r, (∀ k, 200 < k → spec_l05Draw.f k src p s = some r) ∧ DrawnMo src r := by
  obtain ⟨fr, p1, s1, e1, g1, f0, f1⟩ := next_some hb hs (n := 2) (by omega)
  have f1 := f1 (by omega)
  obtain ⟨⟨a, b, c, d, p2, s2⟩, m1, g2⟩ := drawPm_some hb g1 fr (by omega)
  have g2 : Src src p2 s2 := g2
  obtain ⟨u, p3, s3, e3, g3, -, -⟩ := next_some hb g2 (n := 12) (by omega)
  by_cases c0 : u = 0
  · obtain ⟨⟨a', b', c', d', p4, s4⟩, m2, g4⟩ := drawMat_some hb g3
    obtain ⟨r, r1, r2⟩ := drawMo_j0 hb (p := p4) (s := s4) g4 a' b' c' d'
    refine ⟨r, fun k hk => ?_, r2⟩
    unfold spec_l05Draw.f
    rw [e1, Option.bind_some]; dsimp only
    rw [m1 k (by omega), Option.bind_some]; dsimp only
    rw [e3, Option.bind_some]; dsimp only
    rw [if_pos c0, m2 k (by omega), Option.bind_some]; dsimp only
    exact r1 k (by omega)
  · by_cases c1 : u = 1
    · obtain ⟨r, r1, r2⟩ := drawMo_j0 hb (p := p3) (s := s3) g3 1 0 0 1
      refine ⟨r, fun k hk => ?_, r2⟩
      unfold spec_l05Draw.f spec_l02Unit.f
      rw [e1, Option.bind_some]; dsimp only
      rw [m1 k (by omega), Option.bind_some]; dsimp only
      rw [e3, Option.bind_some]; dsimp only
      rw [if_neg c0, if_pos c1, Option.bind_some]
      exact r1 k (by omega)
    · by_cases c2 : u = 2
      · obtain ⟨⟨a', b', c', d', p4, s4⟩, m2, g4⟩ := drawFin_some hb g3
        obtain ⟨r, r1, r2⟩ := drawMo_j0 hb (p := p4) (s := s4) g4 a' b' c' d'
        refine ⟨r, fun k hk => ?_, r2⟩
        unfold spec_l05Draw.f
        rw [e1, Option.bind_some]; dsimp only
        rw [m1 k (by omega), Option.bind_some]; dsimp only
        rw [e3, Option.bind_some]; dsimp only
        rw [if_neg c0, if_neg c1, if_pos c2, m2 k (by omega), Option.bind_some]; dsimp only
        exact r1 k (by omega)
      · obtain ⟨r, r1, r2⟩ := drawMo_j0 hb (p := p3) (s := s3) g3 a b c d
        refine ⟨r, fun k hk => ?_, r2⟩
        unfold spec_l05Draw.f
        rw [e1, Option.bind_some]; dsimp only
        rw [m1 k (by omega), Option.bind_some]; dsimp only
        rw [e3, Option.bind_some]; dsimp only
        rw [if_neg c0, if_neg c1, if_neg c2]
        exact r1 k (by omega)

end Go.Proofs.YtnblfcibgokccaaGreatDoor.LC
