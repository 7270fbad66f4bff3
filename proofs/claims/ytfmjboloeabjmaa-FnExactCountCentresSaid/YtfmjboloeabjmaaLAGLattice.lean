/- Plain lemmas on lattices: remainders, reducing, membership, cells, sublattices. -/
import Derived.Test.YtfmjboloeabjmaaAid
import Derived.Test.YtfmjboloeabjmaaPAx0
import Derived.Test.YtfmjboloeabjmaaLAABasic
import Derived.Test.YtfmjboloeabjmaaPAx0
import Derived.Test.YtfmjboloeabjmaaPAx12
import Derived.Test.YtfmjboloeabjmaaPAx13
import Derived.Test.YtfmjboloeabjmaaPAx5
import Derived.Test.YtfmjboloeabjmaaPAx6
namespace Go.Proofs.Ytfmjboloeabjmaa.LA
open Go.RowKit Go.Proofs.Ytfmjboloeabjmaa.PA Go.Proofs.YtfmjboloeabjmaaW.PrintWords Go.Proofs.YtfmjboloeabjmaaW.PrintLast Go.Proofs.Ytfmjboloeabjmaa.Aid
set_option linter.unusedVariables false
set_option linter.unusedSimpArgs false

theorem tmod_add {a n : Int} (hn : 1 ≤ n) (hb : n ≤ 1000000000) : -n < Int.tmod a n ∧ Int.tmod a n < n ∧ (0 ≤ Int.tmod a n → Int.tmod a n = a % n) ∧ (Int.tmod a n < 0 → Int.tmod a n + n = a % n) := by
  have h1 : Int.tmod a n = a % n ∨ Int.tmod a n = a % n - n ∧ 0 < a % n := by
    rcases Int.le_total 0 a with h | h
    · left; exact Int.tmod_eq_emod_of_nonneg h
    · rcases Int.lt_or_eq_of_le (Int.emod_nonneg a (show n ≠ 0 by omega)) with h2 | h2
      · right
        rw [Int.tmod_eq_emod]
        have hd : ¬ n ∣ a := fun hd => by rw [Int.emod_eq_zero_of_dvd hd] at h2; omega
        have h3 : ¬ (0 ≤ a ∨ n ∣ a) := by
          rintro (h3 | h3)
          · have : a = 0 := by omega
            exact hd (by rw [this]; exact Int.dvd_zero n)
          · exact hd h3
        rw [if_neg h3]
        have : (n.natAbs : Int) = n := by omega
        exact ⟨by omega, h2⟩
      · left
        have : n ∣ a := Int.dvd_of_emod_eq_zero h2.symm
        rw [Int.tmod_eq_emod, if_pos (Or.inr this)]; omega
  have h2 := Int.emod_nonneg a (show n ≠ 0 by omega)
  have h3 := Int.emod_lt_of_pos a (show 0 < n by omega)
  refine ⟨by omega, by omega, fun h => by omega, fun h => by omega⟩
theorem spec_mod_eq (a : Int) {n : Int} (hn : 1 ≤ n) (hb : n ≤ 1000000000) : spec_l01Mod.f a n = some (a % n) := by
  obtain ⟨h1, h2, h3, h4⟩ := tmod_add (a := a) hn hb
  unfold spec_l01Mod.f
  rw [if_neg (by omega)]
  by_cases h : Int.tmod a n < 0
  · rw [if_pos h, w64s (by omega) (by omega), h4 h]
  · rw [if_neg h, h3 (by omega)]
theorem impl_mod_eq (a : Int) {n : Int} (hn : 1 ≤ n) (hb : n ≤ 1000000000) : impl_mod.f a n = some (a % n) := by
  obtain ⟨h1, h2, h3, h4⟩ := tmod_add (a := a) hn hb
  have h5 := Int.emod_nonneg a (show n ≠ 0 by omega)
  have h6 := Int.emod_lt_of_pos a (show 0 < n by omega)
  unfold impl_mod.f
  rw [if_neg (by omega), w64s (by omega) (by omega)]
  congr 1
  by_cases h : Int.tmod a n < 0
  · rw [h4 h, Int.tmod_eq_emod_of_nonneg h5]; exact Int.emod_eq_of_lt h5 h6
  · rw [h3 (by omega), Int.tmod_eq_emod_of_nonneg (by omega), Int.add_emod_right]; exact Int.emod_eq_of_lt h5 h6
/-- The cell to which a vector is reduced. -/
def red (a b c x y : Int) : Int × Int := ((x - y / c * b) % a, y % c)
theorem red_range {a b c x y : Int} (hl : Lat a b c) : (0 ≤ (red a b c x y).1 ∧ (red a b c x y).1 < a) ∧ (0 ≤ (red a b c x y).2 ∧ (red a b c x y).2 < c) := by
  obtain ⟨l1, l2, l3, l4, l5, l6, _⟩ := hl
  unfold red
  exact ⟨⟨Int.emod_nonneg _ (by omega), Int.emod_lt_of_pos _ (by omega)⟩, Int.emod_nonneg _ (by omega), Int.emod_lt_of_pos _ (by omega)⟩
theorem q_bound {y c : Int} (hc : 1 ≤ c) (hy0 : -1000000000 ≤ y) (hy1 : y ≤ 1000000000) : -1000000000 ≤ y / c ∧ y / c ≤ 1000000000 := by
  have e := Int.mul_ediv_add_emod y c
  have h1 := Int.emod_nonneg y (show c ≠ 0 by omega)
  have h2 := Int.emod_lt_of_pos y (show 0 < c by omega)
  generalize y / c = q at *
  constructor
  · apply Int.not_lt.1
    intro h
    have h3 : c * (q + 1) ≤ 1 * (q + 1) := Int.mul_le_mul_of_nonpos_right hc (by omega)
    rw [Int.mul_add] at h3
    omega
  · apply Int.not_lt.1
    intro h
    have h3 : 1 * q ≤ c * q := Int.mul_le_mul_of_nonneg_right hc (by omega)
    omega
theorem mul_range {q b m n : Int} (h0 : -m ≤ q) (h1 : q ≤ m) (hb0 : 0 ≤ b) (hb1 : b ≤ n) (hm : 0 ≤ m) : -(m * n) ≤ q * b ∧ q * b ≤ m * n := by
  have a1 : q * b ≤ m * b := Int.mul_le_mul_of_nonneg_right h1 hb0
  have a2 : m * b ≤ m * n := Int.mul_le_mul_of_nonneg_left hb1 hm
  have a3 : -m * b ≤ q * b := Int.mul_le_mul_of_nonneg_right h0 hb0
  rw [Int.neg_mul] at a3
  omega
theorem red_mid {b c x y : Int} (hb0 : 0 ≤ b) (hb1 : b ≤ 1000) (hc : 1 ≤ c) (hc1 : c ≤ 1000) (hx0 : -1000000000 ≤ x) (hx1 : x ≤ 1000000000) (hy0 : -1000000000 ≤ y) (hy1 : y ≤ 1000000000) :
    wrap64 (x - wrap64 (wrap64 (Int.tdiv (wrap64 (y - y % c)) c) * b)) = x - y / c * b := by
  have h1 := Int.emod_nonneg y (show c ≠ 0 by omega)
  have h2 := Int.emod_lt_of_pos y (show 0 < c by omega)
  have h3 : y - y % c = c * (y / c) := by have := Int.mul_ediv_add_emod y c; omega
  have hq := q_bound hc hy0 hy1
  rw [w64s (x := y - y % c) (by omega) (by omega), h3, Int.mul_tdiv_cancel_left _ (by omega), w64s (x := y / c) (by omega) (by omega)]
  have hm := mul_range hq.1 hq.2 hb0 hb1 (by omega)
  rw [w64s (x := y / c * b) (by omega) (by omega), w64s (by omega) (by omega)]
/-- A vector of moderate size, and a lattice of moderate size. -/
def Mod4 (a b c x y : Int) : Prop := 1 ≤ a ∧ a ≤ 1000 ∧ 0 ≤ b ∧ b ≤ 1000 ∧ 1 ≤ c ∧ c ≤ 1000 ∧ -1000000000 ≤ x ∧ x ≤ 1000000000 ∧ -1000000000 ≤ y ∧ y ≤ 1000000000
theorem Lat.mod4 {a b c x y : Int} (h : Lat a b c) (hx0 : -1000000000 ≤ x) (hx1 : x ≤ 1000000000) (hy0 : -1000000000 ≤ y) (hy1 : y ≤ 1000000000) : Mod4 a b c x y := by
  obtain ⟨h1, h2, h3, h4, h5, h6, _⟩ := h
  exact ⟨h1, by omega, h5, by omega, h3, by omega, hx0, hx1, hy0, hy1⟩
theorem impl_reduce_eq {a b c x y : Int} (h : Mod4 a b c x y) : impl_Lattice_reduce.f a b c x y = some (red a b c x y) := by
  obtain ⟨h1, h2, h3, h4, h5, h6, h7, h8, h9, h10⟩ := h
  unfold impl_Lattice_reduce.f red
  rw [impl_mod_eq y h5 (by omega)]
  simp only [Option.bind_some]
  rw [if_neg (by omega), red_mid h3 h4 h5 h6 h7 h8 h9 h10, impl_mod_eq _ h1 (by omega)]; rfl
theorem impl_has_eq {a b c x y : Int} (h : Mod4 a b c x y) : impl_Lattice_has.f a b c x y = some (decide (red a b c x y = (0, 0))) := by
  unfold impl_Lattice_has.f
  rw [impl_reduce_eq h]
  simp only [Option.bind_some]
  congr 1
  rw [Bool.eq_iff_iff]
  simp [Prod.ext_iff]
theorem spec_reduce_eq {a b c x y : Int} (h : Mod4 a b c x y) : spec_l03Reduce.f a b c x y = some (red a b c x y) := by
  obtain ⟨h1, h2, h3, h4, h5, h6, h7, h8, h9, h10⟩ := h
  unfold spec_l03Reduce.f red
  rw [spec_mod_eq y h5 (by omega)]
  simp only [Option.bind_some]
  rw [if_neg (by omega), red_mid h3 h4 h5 h6 h7 h8 h9 h10, spec_mod_eq _ h1 (by omega)]; rfl
end Go.Proofs.Ytfmjboloeabjmaa.LA
