/- Plain lemmas on the axis of a reflection, and on drawn matrices. -/
import Derived.Test.YtnblfcibgokccaaGreatDoorAid
import Derived.Test.YtnblfcibgokccaaGreatDoorPCx0
import Derived.Test.YtnblfcibgokccaaGreatDoorLCABasic
import Derived.Test.YtnblfcibgokccaaGreatDoorLCYaDraw
import Derived.Test.YtnblfcibgokccaaGreatDoorLCYbaLats
import Derived.Test.YtnblfcibgokccaaGreatDoorPCx0
import Derived.Test.YtnblfcibgokccaaGreatDoorPCx4
import Derived.Test.YtnblfcibgokccaaGreatDoorPCx5
namespace Go.Proofs.YtnblfcibgokccaaGreatDoor.LC
open Go.RowKit Go.Proofs.YtnblfcibgokccaaGreatDoor.PC Go.Proofs.YtnblfcibgokccaaGreatDoorW.PrintWords Go.Proofs.YtnblfcibgokccaaGreatDoorW.PrintLast Go.Proofs.YtnblfcibgokccaaGreatDoor.Aid
set_option linter.unusedVariables false
set_option linter.unusedSimpArgs false

theorem dvdL {a b c : Int} (h : a ∣ b * c) (g : Int.gcd a b = 1) : a ∣ c := by
  have : a.natAbs ∣ b.natAbs * c.natAbs := by rw [← Int.natAbs_mul]; exact Int.natAbs_dvd_natAbs.2 h
  exact Int.natAbs_dvd_natAbs.1 (Nat.Coprime.dvd_of_dvd_mul_left (by unfold Nat.Coprime; rwa [Int.gcd_eq_natAbs_gcd_natAbs] at g) this)
theorem prim_par {x y u v : Int} (h1 : Int.gcd x y = 1) (h2 : Int.gcd u v = 1) (hc : x * v = u * y) : (u = x ∧ v = y) ∨ (u = -x ∧ v = -y) := by
  have d1 : x ∣ u := by
    have : x ∣ u * y := ⟨v, hc.symm⟩
    exact dvdL (by rwa [Int.mul_comm] at this) h1
  have d2 : u ∣ x := by
    have : u ∣ x * v := ⟨y, hc⟩
    exact dvdL (by rwa [Int.mul_comm] at this) h2
  have d3 : y ∣ v := by
    have : y ∣ x * v := ⟨u, by rw [hc, Int.mul_comm]⟩
    exact dvdL this (by rwa [Int.gcd_comm])
  have d4 : v ∣ y := by
    have : v ∣ u * y := ⟨x, by rw [← hc, Int.mul_comm]⟩
    exact dvdL this (by rwa [Int.gcd_comm])
  have e1 : x.natAbs = u.natAbs := Nat.dvd_antisymm (Int.natAbs_dvd_natAbs.2 d1) (Int.natAbs_dvd_natAbs.2 d2)
  have e2 : y.natAbs = v.natAbs := Nat.dvd_antisymm (Int.natAbs_dvd_natAbs.2 d3) (Int.natAbs_dvd_natAbs.2 d4)
  have c1 : u = x ∨ u = -x := by omega
  have c2 : v = y ∨ v = -y := by omega
  rcases c1 with rfl | rfl <;> rcases c2 with rfl | rfl
  · exact .inl ⟨rfl, rfl⟩
  · have : 2 * (u * y) = 0 := by rw [Int.mul_neg] at hc; omega
    rcases Int.mul_eq_zero.1 (by omega : u * y = 0) with h | h
    · exact .inr ⟨by omega, rfl⟩
    · exact .inl ⟨rfl, by omega⟩
  · have : 2 * (x * v) = 0 := by rw [Int.neg_mul] at hc; omega
    rcases Int.mul_eq_zero.1 (by omega : x * v = 0) with h | h
    · exact .inl ⟨by omega, rfl⟩
    · exact .inr ⟨rfl, by omega⟩
  · exact .inr ⟨rfl, rfl⟩
/-- A vector made primitive, its first number that is not 0 positive. -/
def sgn2 (x y : Int) : Int × Int := if x < 0 ∨ (x = 0 ∧ y < 0) then (-x, -y) else (x, y)
def prim (x y : Int) : Int × Int := sgn2 (Int.tdiv x (Int.gcd x y)) (Int.tdiv y (Int.gcd x y))
theorem gcd_parts {x y : Int} (h : ¬ (x = 0 ∧ y = 0)) : ∃ p q : Int, x = (Int.gcd x y : Int) * p ∧ y = (Int.gcd x y : Int) * q ∧ Int.gcd p q = 1 ∧ Int.tdiv x (Int.gcd x y) = p ∧ Int.tdiv y (Int.gcd x y) = q ∧ 0 < Int.gcd x y := by
  have hg : 0 < Int.gcd x y := Nat.pos_of_ne_zero fun e => h (Int.gcd_eq_zero_iff.1 e)
  obtain ⟨p, hp⟩ := Int.gcd_dvd_left x y
  obtain ⟨q, hq⟩ := Int.gcd_dvd_right x y
  refine ⟨p, q, hp, hq, ?_, ?_, ?_, hg⟩
  · have : Int.gcd x y = Int.gcd x y * Int.gcd p q := by
      generalize hG : Int.gcd x y = G at *
      rw [hp, hq, Int.gcd_mul_left] at hG
      rw [Int.natAbs_natCast] at hG; exact hG.symm
    have h2 : Int.gcd x y * 1 = Int.gcd x y * Int.gcd p q := by omega
    exact (Nat.eq_of_mul_eq_mul_left hg h2).symm
  · generalize hG : Int.gcd x y = G at *
    rw [hp, Int.mul_tdiv_cancel_left _ (by omega)]
  · generalize hG : Int.gcd x y = G at *
    rw [hq, Int.mul_tdiv_cancel_left _ (by omega)]
theorem prim_eq {x y u v : Int} (h1 : ¬ (x = 0 ∧ y = 0)) (h2 : ¬ (u = 0 ∧ v = 0)) (hc : x * v = u * y) : prim x y = prim u v := by
  obtain ⟨p, q, a1, a2, a3, a4, a5, a6⟩ := gcd_parts h1
  obtain ⟨s, t, b1, b2, b3, b4, b5, b6⟩ := gcd_parts h2
  unfold prim
  rw [a4, a5, b4, b5]
  have hpt : p * t = s * q := by
    have e : ((Int.gcd x y : Int) * (Int.gcd u v : Int)) * (p * t) = ((Int.gcd x y : Int) * (Int.gcd u v : Int)) * (s * q) := by
      have l : x * v = ((Int.gcd x y : Int) * (Int.gcd u v : Int)) * (p * t) := by
        conv => lhs; rw [a1, b2]
        ac_rfl
      have r : u * y = ((Int.gcd x y : Int) * (Int.gcd u v : Int)) * (s * q) := by
        conv => lhs; rw [b1, a2]
        ac_rfl
      rw [← l, ← r, hc]
    exact Int.eq_of_mul_eq_mul_left (Int.mul_ne_zero (by omega) (by omega)) e
  rcases prim_par a3 b3 hpt with ⟨rfl, rfl⟩ | ⟨rfl, rfl⟩
  · rfl
  · have nz : ¬ (p = 0 ∧ q = 0) := by rintro ⟨rfl, rfl⟩; simp at a3
    unfold sgn2
    split <;> split <;> first | (exfalso; omega) | (simp only [Int.neg_neg])
theorem prim_spec {x y : Int} (h : ¬ (x = 0 ∧ y = 0)) : ∃ g : Int, g ≠ 0 ∧ x = g * (prim x y).1 ∧ y = g * (prim x y).2 ∧ Int.gcd (prim x y).1 (prim x y).2 = 1 := by
  obtain ⟨p, q, a1, a2, a3, a4, a5, a6⟩ := gcd_parts h
  unfold prim
  rw [a4, a5]
  unfold sgn2
  split
  · refine ⟨-(Int.gcd x y : Int), by omega, ?_, ?_, ?_⟩
    · rw [Int.neg_mul_neg]; exact a1
    · rw [Int.neg_mul_neg]; exact a2
    · show Int.gcd (-p) (-q) = 1
      rw [Int.neg_gcd, Int.gcd_neg]; exact a3
  · exact ⟨(Int.gcd x y : Int), by omega, a1, a2, a3⟩
/-- The axis of a reflection, as the program finds it. -/
def AX (a b c d : Int) : Int × Int := if b = 0 ∧ 1 - a = 0 then prim (1 - d) c else prim b (1 - a)
theorem AX_spec {a b c d : Int} (hd : a * d - b * c = -1) (ht : a + d = 0) : AX a b c d = if a + 1 = 0 ∧ c = 0 then prim b (d + 1) else prim (a + 1) c := by
  obtain rfl : d = -a := by omega
  have hbc : b * c = (a + 1) * (1 - a) := by grind
  unfold AX
  by_cases h1 : b = 0 ∧ 1 - a = 0
  · rw [if_pos h1, if_neg (by omega)]
    rw [show 1 - -a = a + 1 by omega]
  · rw [if_neg h1]
    by_cases h2 : a + 1 = 0 ∧ c = 0
    · rw [if_pos h2, show 1 - a = -a + 1 by omega]
    · rw [if_neg h2]
      exact prim_eq h1 h2 hbc
theorem AX_fix {a b c d : Int} (hd : a * d - b * c = -1) (ht : a + d = 0) : a * (AX a b c d).1 + b * (AX a b c d).2 = (AX a b c d).1 ∧ c * (AX a b c d).1 + d * (AX a b c d).2 = (AX a b c d).2 ∧ Int.gcd (AX a b c d).1 (AX a b c d).2 = 1 := by
  obtain rfl : d = -a := by omega
  have hbc : b * c = (a + 1) * (1 - a) := by grind
  have key : ∀ x y : Int, ¬ (x = 0 ∧ y = 0) → a * x + b * y = x → c * x + -a * y = y → a * (prim x y).1 + b * (prim x y).2 = (prim x y).1 ∧ c * (prim x y).1 + -a * (prim x y).2 = (prim x y).2 ∧ Int.gcd (prim x y).1 (prim x y).2 = 1 := by
    intro x y h e1 e2
    obtain ⟨g, g0, g1, g2, g3⟩ := prim_spec h
    refine ⟨Int.eq_of_mul_eq_mul_left g0 ?_, Int.eq_of_mul_eq_mul_left g0 ?_, g3⟩
    · rw [← g1]
      conv => rhs; rw [← e1, g1, g2]
      grind
    · rw [← g2]
      conv => rhs; rw [← e2, g1, g2]
      grind
  unfold AX
  by_cases h1 : b = 0 ∧ 1 - a = 0
  · rw [if_pos h1]
    obtain ⟨rfl, h1⟩ := h1
    obtain rfl : a = 1 := by omega
    exact key _ _ (by omega) (by omega) (by omega)
  · rw [if_neg h1]
    exact key _ _ h1 (by grind) (by grind)
theorem AX_small {x y : Int} (h : ¬ (x = 0 ∧ y = 0)) : (prim x y).1.natAbs ≤ x.natAbs ∧ (prim x y).2.natAbs ≤ y.natAbs := by
  obtain ⟨g, g0, g1, g2, g3⟩ := prim_spec h
  have n1 : x.natAbs = g.natAbs * (prim x y).1.natAbs := by rw [← Int.natAbs_mul, ← g1]
  have n2 : y.natAbs = g.natAbs * (prim x y).2.natAbs := by rw [← Int.natAbs_mul, ← g2]
  have hg : 1 ≤ g.natAbs := by omega
  rw [n1, n2]
  exact ⟨Nat.le_mul_of_pos_left _ hg, Nat.le_mul_of_pos_left _ hg⟩
/-- A drawn matrix, and the source behind it. -/
def DrawnM (src : List Int) (r : Int × Int × Int × Int × Int × Int) : Prop := Src src r.2.2.2.2.1 r.2.2.2.2.2
theorem drawFin_l0 {src : List Int} (hb : Byt src) : ∀ (n : Nat) (p s a b c d : Int), n ≤ 100 → Src src p s → ∃ r, (∀ k, n < k → spec_l02DrawFinite.l0 k (n : Int) src p s a b c d = some r) ∧ DrawnM src r := by
  intro n
  induction n with
  | zero =>
    intro p s a b c d hn hs
    refine ⟨(a, b, c, d, p, s), fun k hk => ?_, hs⟩
    obtain ⟨k, rfl⟩ := succ_of_lt hk
    rw [spec_l02DrawFinite.l0, if_neg (by omega)]
  | succ n ih =>
    intro p s a b c d hn hs
    obtain ⟨u, p1, s1, e1, g1, -, -⟩ := next_some hb hs (n := 5) (by omega)
    obtain ⟨v, p2, s2, e2, g2, -, -⟩ := next_some hb g1 (n := 2) (by omega)
    have hw : wrap64 (((n + 1 : Nat) : Int) - 1) = (n : Int) := by rw [w64s (by omega) (by omega)]; omega
    by_cases c0 : v = 0
    · obtain ⟨x, p3, s3, e3, g3, -, -⟩ := next_some hb g2 (n := 5) (by omega)
      obtain ⟨⟨m0, m1, m2, m3⟩, hm⟩ : ∃ m, spec_l02Multiply.f 1 0 (wrap64 (x - 2)) 1 a b c d = some m := ⟨_, rfl⟩
      obtain ⟨⟨i0, i1, i2, i3⟩, hi⟩ : ∃ m, spec_l02Inverse.f 1 0 (wrap64 (x - 2)) 1 = some m := ⟨_, rfl⟩
      obtain ⟨⟨q0, q1, q2, q3⟩, hq⟩ : ∃ m, spec_l02Multiply.f m0 m1 m2 m3 i0 i1 i2 i3 = some m := ⟨_, rfl⟩
      obtain ⟨r, r1, r2⟩ := ih p3 s3 q0 q1 q2 q3 (by omega) g3
      refine ⟨r, fun k hk => ?_, r2⟩
      obtain ⟨k, rfl⟩ := succ_of_lt hk
      rw [spec_l02DrawFinite.l0, if_pos (by omega), e1, Option.bind_some]; dsimp only
      rw [e2, Option.bind_some]; dsimp only
      rw [if_pos c0, e3, Option.bind_some]; dsimp only
      rw [hm, Option.bind_some, hi, Option.bind_some]; dsimp only
      rw [hq, Option.bind_some]; dsimp only
      rw [hw]
      exact r1 k (by omega)
    · obtain ⟨⟨m0, m1, m2, m3⟩, hm⟩ : ∃ m, spec_l02Multiply.f 1 (wrap64 (u - 2)) 0 1 a b c d = some m := ⟨_, rfl⟩
      obtain ⟨⟨i0, i1, i2, i3⟩, hi⟩ : ∃ m, spec_l02Inverse.f 1 (wrap64 (u - 2)) 0 1 = some m := ⟨_, rfl⟩
      obtain ⟨⟨q0, q1, q2, q3⟩, hq⟩ : ∃ m, spec_l02Multiply.f m0 m1 m2 m3 i0 i1 i2 i3 = some m := ⟨_, rfl⟩
      obtain ⟨r, r1, r2⟩ := ih p2 s2 q0 q1 q2 q3 (by omega) g2
      refine ⟨r, fun k hk => ?_, r2⟩
      obtain ⟨k, rfl⟩ := succ_of_lt hk
      rw [spec_l02DrawFinite.l0, if_pos (by omega), e1, Option.bind_some]; dsimp only
      rw [e2, Option.bind_some]; dsimp only
      rw [if_neg c0, hm, Option.bind_some, hi, Option.bind_some]; dsimp only
      rw [hq, Option.bind_some]; dsimp only
      rw [hw]
      exact r1 k (by omega)
theorem drawFin_some {src : List Int} (hb : Byt src) {p s : Int} (hs : Src src p s) : ∃ r, (∀ k, 10 < k → spec_l02DrawFinite.f k src p s = some r) ∧ DrawnM src r := by
  obtain ⟨u, p1, s1, e1, g1, u0, u1⟩ := next_some hb hs (n := 8) (by omega)
  have u1 := u1 (by omega)
  obtain ⟨v, p2, s2, e2, g2, v0, v1⟩ := next_some hb g1 (n := 3) (by omega)
  have v1 := v1 (by omega)
  obtain ⟨n, rfl⟩ := Int.eq_ofNat_of_zero_le v0
  obtain ⟨r, r1, r2⟩ := drawFin_l0 hb n p2 s2 (rd_T25 [⟨1, 0, 0, 1⟩, ⟨(-1), 0, 0, (-1)⟩, ⟨0, (-1), 1, 0⟩, ⟨0, (-1), 1, 1⟩, ⟨(-1), (-1), 1, 0⟩, ⟨1, 0, 0, (-1)⟩, ⟨0, 1, 1, 0⟩, ⟨1, 1, 0, (-1)⟩] u).f0 (rd_T25 [⟨1, 0, 0, 1⟩, ⟨(-1), 0, 0, (-1)⟩, ⟨0, (-1), 1, 0⟩, ⟨0, (-1), 1, 1⟩, ⟨(-1), (-1), 1, 0⟩, ⟨1, 0, 0, (-1)⟩, ⟨0, 1, 1, 0⟩, ⟨1, 1, 0, (-1)⟩] u).f1 (rd_T25 [⟨1, 0, 0, 1⟩, ⟨(-1), 0, 0, (-1)⟩, ⟨0, (-1), 1, 0⟩, ⟨0, (-1), 1, 1⟩, ⟨(-1), (-1), 1, 0⟩, ⟨1, 0, 0, (-1)⟩, ⟨0, 1, 1, 0⟩, ⟨1, 1, 0, (-1)⟩] u).f2 (rd_T25 [⟨1, 0, 0, 1⟩, ⟨(-1), 0, 0, (-1)⟩, ⟨0, (-1), 1, 0⟩, ⟨0, (-1), 1, 1⟩, ⟨(-1), (-1), 1, 0⟩, ⟨1, 0, 0, (-1)⟩, ⟨0, 1, 1, 0⟩, ⟨1, 1, 0, (-1)⟩] u).f3 (by omega) g2
  refine ⟨r, fun k hk => ?_, r2⟩
  unfold spec_l02DrawFinite.f
  rw [Option.bind_some, e1, Option.bind_some]; dsimp only
  rw [if_pos u0, if_pos (by simpa using u1), e2, Option.bind_some]; dsimp only
  exact r1 k (by omega)
theorem drawMat_l0 {src : List Int} (hb : Byt src) : ∀ (n : Nat) (p s a b c d : Int), n ≤ 100 → Src src p s → ∃ r, (∀ k, n < k → spec_l02Draw.l0 k (n : Int) src p s a b c d = some r) ∧ DrawnM src r := by
  intro n
  induction n with
  | zero =>
    intro p s a b c d hn hs
    obtain ⟨u, p1, s1, e1, g1, -, -⟩ := next_some hb hs (n := 20) (by omega)
    by_cases c0 : u = 0
    · refine ⟨(wrap64 (a + 1), b, c, d, p1, s1), fun k hk => ?_, g1⟩
      obtain ⟨k, rfl⟩ := succ_of_lt hk
      rw [spec_l02Draw.l0, if_neg (by omega), e1, Option.bind_some]; dsimp only
      rw [if_pos c0]
    · by_cases c1 : u = 1
      · obtain ⟨v, p2, s2, e2, g2⟩ := pick_some hb g1 [999, 1000, 1001] (by decide) (by decide)
        refine ⟨(1, v, 0, 1, p2, s2), fun k hk => ?_, g2⟩
        obtain ⟨k, rfl⟩ := succ_of_lt hk
        rw [spec_l02Draw.l0, if_neg (by omega), e1, Option.bind_some]; dsimp only
        rw [if_neg c0, if_pos c1, e2, Option.bind_some]
      · refine ⟨(a, b, c, d, p1, s1), fun k hk => ?_, g1⟩
        obtain ⟨k, rfl⟩ := succ_of_lt hk
        rw [spec_l02Draw.l0, if_neg (by omega), e1, Option.bind_some]; dsimp only
        rw [if_neg c0, if_neg c1]
  | succ n ih =>
    intro p s a b c d hn hs
    obtain ⟨u, p1, s1, e1, g1, u0, u1⟩ := next_some hb hs (n := 5) (by omega)
    have u1 := u1 (by omega)
    have hw : wrap64 (((n + 1 : Nat) : Int) - 1) = (n : Int) := by rw [w64s (by omega) (by omega)]; omega
    obtain ⟨⟨q0, q1, q2, q3⟩, hq⟩ : ∃ m, spec_l02Multiply.f a b c d (rd_T25 [⟨1, 1, 0, 1⟩, ⟨1, 0, 1, 1⟩, ⟨1, (-2), 0, 1⟩, ⟨0, 1, 1, 0⟩, ⟨(-1), 0, 0, 1⟩] u).f0 (rd_T25 [⟨1, 1, 0, 1⟩, ⟨1, 0, 1, 1⟩, ⟨1, (-2), 0, 1⟩, ⟨0, 1, 1, 0⟩, ⟨(-1), 0, 0, 1⟩] u).f1 (rd_T25 [⟨1, 1, 0, 1⟩, ⟨1, 0, 1, 1⟩, ⟨1, (-2), 0, 1⟩, ⟨0, 1, 1, 0⟩, ⟨(-1), 0, 0, 1⟩] u).f2 (rd_T25 [⟨1, 1, 0, 1⟩, ⟨1, 0, 1, 1⟩, ⟨1, (-2), 0, 1⟩, ⟨0, 1, 1, 0⟩, ⟨(-1), 0, 0, 1⟩] u).f3 = some m := ⟨_, rfl⟩
    obtain ⟨r, r1, r2⟩ := ih p1 s1 q0 q1 q2 q3 (by omega) g1
    refine ⟨r, fun k hk => ?_, r2⟩
    obtain ⟨k, rfl⟩ := succ_of_lt hk
    rw [spec_l02Draw.l0, if_pos (by omega), Option.bind_some, e1, Option.bind_some]; dsimp only
    rw [if_pos u0, if_pos (by simpa using u1), hq, Option.bind_some]; dsimp only
    rw [hw]
    exact r1 k (by omega)
theorem drawMat_some {src : List Int} (hb : Byt src) {p s : Int} (hs : Src src p s) : ∃ r, (∀ k, 10 < k → spec_l02Draw.f k src p s = some r) ∧ DrawnM src r := by
  obtain ⟨u, p1, s1, e1, g1, u0, u1⟩ := next_some hb hs (n := 3) (by omega)
  by_cases c0 : u > 0
  · obtain ⟨⟨a, b, c, d, p2, s2⟩, r1, r2⟩ := drawFin_some hb g1
    refine ⟨(a, b, c, d, p2, s2), fun k hk => ?_, r2⟩
    unfold spec_l02Draw.f
    rw [e1, Option.bind_some]; dsimp only
    rw [if_pos c0, r1 k hk, Option.bind_some]
  · obtain ⟨v, p2, s2, e2, g2, v0, v1⟩ := next_some hb g1 (n := 5) (by omega)
    have v1 := v1 (by omega)
    obtain ⟨n, rfl⟩ := Int.eq_ofNat_of_zero_le v0
    obtain ⟨r, r1, r2⟩ := drawMat_l0 hb n p2 s2 1 0 0 1 (by omega) g2
    refine ⟨r, fun k hk => ?_, r2⟩
    unfold spec_l02Draw.f spec_l02Unit.f
    rw [e1, Option.bind_some]; dsimp only
    rw [if_neg c0, Option.bind_some, e2, Option.bind_some]; dsimp only
    exact r1 k (by omega)

end Go.Proofs.YtnblfcibgokccaaGreatDoor.LC
