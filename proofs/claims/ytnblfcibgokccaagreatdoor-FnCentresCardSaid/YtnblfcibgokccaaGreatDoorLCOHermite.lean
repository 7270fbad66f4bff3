/- Plain lemmas on the Hermite form of two vectors: it is the lattice itself if and only if the lattice holds both vectors. -/
import Derived.Test.YtnblfcibgokccaaGreatDoorAid
import Derived.Test.YtnblfcibgokccaaGreatDoorPCx0
import Derived.Test.YtnblfcibgokccaaGreatDoorLCGLattice
import Derived.Test.YtnblfcibgokccaaGreatDoorPCx9
namespace Go.Proofs.YtnblfcibgokccaaGreatDoor.LC
open Go.RowKit Go.Proofs.YtnblfcibgokccaaGreatDoor.PC Go.Proofs.YtnblfcibgokccaaGreatDoorW.PrintWords Go.Proofs.YtnblfcibgokccaaGreatDoorW.PrintLast Go.Proofs.YtnblfcibgokccaaGreatDoor.Aid
set_option linter.unusedVariables false
set_option linter.unusedSimpArgs false

/-- Is a vector in a lattice? -/
def inL (a b c x y : Int) : Prop := ∃ q, y = q * c ∧ a ∣ x - q * b
theorem inL_sub {a b c x y x' y' : Int} (k : Int) (h : inL a b c x y) (h' : inL a b c x' y') : inL a b c (x - k * x') (y - k * y') := by
  obtain ⟨q, h1, h2⟩ := h
  obtain ⟨q', h3, h4⟩ := h'
  refine ⟨q - k * q', ?_, ?_⟩
  · rw [h1, h3, Int.sub_mul, Int.mul_assoc]
  · have : x - k * x' - (q - k * q') * b = (x - q * b) - k * (x' - q' * b) := by
      rw [Int.sub_mul, Int.mul_sub, Int.mul_assoc]; omega
    rw [this]
    exact Int.dvd_sub h2 (Int.dvd_trans h4 (Int.dvd_mul_left k _))
theorem inL_step {a b c x y x' y' : Int} (k : Int) : (inL a b c x y ∧ inL a b c x' y') ↔ (inL a b c x' y' ∧ inL a b c (x - k * x') (y - k * y')) := by
  constructor
  · rintro ⟨h, h'⟩; exact ⟨h', inL_sub k h h'⟩
  · rintro ⟨h', h⟩
    refine ⟨?_, h'⟩
    have := inL_sub (-k) h h'
    rw [Int.neg_mul, Int.neg_mul] at this
    rwa [show x - k * x' - -(k * x') = x by omega, show y - k * y' - -(k * y') = y by omega] at this
theorem inL_zero {a b c x : Int} (hc : 1 ≤ c) : inL a b c x 0 ↔ a ∣ x := by
  constructor
  · rintro ⟨q, h1, h2⟩
    have hq : q = 0 := by
      rcases Int.mul_eq_zero.1 h1.symm with h | h
      · exact h
      · omega
    rw [hq, Int.zero_mul, Int.sub_zero] at h2; exact h2
  · intro h
    exact ⟨0, by rw [Int.zero_mul], by rw [Int.zero_mul, Int.sub_zero]; exact h⟩
theorem inL_neg {a b c x y : Int} (h : inL a b c x y) : inL a b c (-x) (-y) := by
  obtain ⟨q, h1, h2⟩ := h
  refine ⟨-q, by rw [Int.neg_mul, h1], ?_⟩
  rw [show -x - -q * b = -(x - q * b) by rw [Int.neg_mul]; omega]
  exact (Int.dvd_neg).2 h2
theorem inL_neg_iff {a b c x y : Int} : inL a b c (-x) (-y) ↔ inL a b c x y := by
  constructor
  · intro h
    have := inL_neg h
    rwa [Int.neg_neg, Int.neg_neg] at this
  · exact inL_neg
theorem inL_emod {a b c x y n : Int} (hc : 1 ≤ c) (h : a ∣ n) : inL a b c (x % n) y ↔ inL a b c x y := by
  have h0 : inL a b c n 0 := (inL_zero hc).2 h
  have e : x % n = x - (x / n) * n := by have := Int.mul_ediv_add_emod x n; rw [Int.mul_comm] at this; omega
  constructor
  · intro h1
    have := inL_sub (-(x / n)) h1 h0
    rwa [e, Int.mul_zero, Int.sub_zero, show x - x / n * n - -(x / n) * n = x by rw [Int.neg_mul]; omega] at this
  · intro h1
    have := inL_sub (x / n) h1 h0
    rwa [Int.mul_zero, Int.sub_zero, ← e] at this
theorem red_inL {a b c x y : Int} (hc : 1 ≤ c) (ha : 1 ≤ a) : red a b c x y = (0, 0) ↔ inL a b c x y := by
  unfold red
  rw [Prod.ext_iff]
  show (x - y / c * b) % a = 0 ∧ y % c = 0 ↔ _
  constructor
  · rintro ⟨h1, h2⟩
    exact ⟨y / c, by have := Int.mul_ediv_add_emod y c; rw [Int.mul_comm] at this; omega, Int.dvd_of_emod_eq_zero h1⟩
  · rintro ⟨q, h1, h2⟩
    have : y / c = q := by rw [h1]; exact Int.mul_ediv_cancel _ (by omega)
    rw [this]
    exact ⟨Int.emod_eq_zero_of_dvd h2, by rw [h1]; exact Int.mul_emod_left _ _⟩
theorem red_diff {a b c x y : Int} (ha : 1 ≤ a) (hc : 1 ≤ c) : inL a b c (x - (red a b c x y).1) (y - (red a b c x y).2) := by
  unfold red
  have h1 := Int.mul_ediv_add_emod y c
  have h2 := Int.mul_ediv_add_emod (x - y / c * b) a
  refine ⟨y / c, by rw [Int.mul_comm] at h1; dsimp only; omega, ⟨(x - y / c * b) / a, by dsimp only; omega⟩⟩
theorem mx_abs {a : Int} (h0 : -4611686018427387904 ≤ a) (h1 : a ≤ 4611686018427387904) : mx a (wrap64 (-a)) = (a.natAbs : Int) := by
  rw [w64s (by omega) (by omega)]
  unfold mx
  split <;> omega
theorem gcd_step (a b : Int) : Int.gcd b (Int.tmod a b) = Int.gcd a b := by
  rw [Int.gcd_eq_natAbs_gcd_natAbs, Int.gcd_eq_natAbs_gcd_natAbs, Int.natAbs_tmod, Nat.gcd_comm a.natAbs b.natAbs]
  conv => rhs; rw [Nat.gcd_rec]
  exact Nat.gcd_comm _ _
theorem spec_gcd_eq : ∀ (k : Nat) (a b : Int), b.natAbs < k → a.natAbs ≤ 4611686018427387904 → b.natAbs ≤ 4611686018427387904 → spec_l01Divisor.f k a b = some (Int.gcd a b : Int)
  | 0, _, _, h, _, _ => absurd h (Nat.not_lt_zero _)
  | k + 1, a, b, h, ha, hb => by
    unfold spec_l01Divisor.f
    by_cases e : b = 0
    · rw [if_pos e, e, mx_abs (by omega) (by omega), Int.gcd_zero]
    · rw [if_neg e]
      have h1 : (Int.tmod a b).natAbs < b.natAbs := by rw [Int.natAbs_tmod]; exact Nat.mod_lt _ (by omega)
      rw [spec_gcd_eq k b (Int.tmod a b) (by omega) hb (by omega), gcd_step]
      rfl
end Go.Proofs.YtnblfcibgokccaaGreatDoor.LC
