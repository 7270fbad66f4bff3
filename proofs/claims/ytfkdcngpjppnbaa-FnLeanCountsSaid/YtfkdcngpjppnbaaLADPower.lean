/- Plain lemmas on powers with a limit and on the codes of chapter 17. -/
import Derived.Test.YtfkdcngpjppnbaaAid
import Derived.Test.YtfkdcngpjppnbaaPAx0
import Derived.Test.YtfkdcngpjppnbaaLAABasic
import Derived.Test.YtfkdcngpjppnbaaPAx5
import Derived.Test.YtfkdcngpjppnbaaPAx6
import Derived.Test.YtfkdcngpjppnbaaPAx7
import Derived.Test.YtfkdcngpjppnbaaPAx8
namespace Go.Proofs.Ytfkdcngpjppnbaa.LA
open Go.RowKit Go.Proofs.Ytfkdcngpjppnbaa.PA Go.Proofs.YtfkdcngpjppnbaaW.PrintWords Go.Proofs.YtfkdcngpjppnbaaW.PrintLast Go.Proofs.Ytfkdcngpjppnbaa.Aid
set_option linter.unusedVariables false
set_option linter.unusedSimpArgs false

/-- A power, no longer reckoned once it is above the limit. -/
def pw (base bound : Int) : Nat → Int → Int
  | 0, out => out
  | n + 1, out => if out ≤ bound then pw base bound n (out * base) else out
theorem pw_big {base bound : Int} (n : Nat) {out : Int} (h : bound < out) : pw base bound n out = out := by
  cases n with
  | zero => rfl
  | succ n => rw [pw, if_neg (by omega)]
theorem pw_step {base bound out : Int} (hb0 : 1 ≤ base) (hb1 : base ≤ 10) (ho0 : 1 ≤ out) (ho1 : out ≤ bound) : 1 ≤ out * base ∧ out * base ≤ bound * 10 := by
  have x : 1 * 1 ≤ out * base := Int.mul_le_mul ho0 hb0 (by omega) (by omega)
  have y : out * base ≤ bound * 10 := Int.mul_le_mul ho1 hb1 (by omega) (by omega)
  omega
theorem pw_range {base bound : Int} (hb0 : 1 ≤ base) (hb1 : base ≤ 10) : ∀ (n : Nat) (out : Int), 1 ≤ out → out ≤ bound * 10 → 1 ≤ pw base bound n out ∧ pw base bound n out ≤ bound * 10
  | 0, _, h0, h1 => ⟨h0, h1⟩
  | n + 1, out, h0, h1 => by
    rw [pw]
    by_cases h : out ≤ bound
    · rw [if_pos h]
      have := pw_step hb0 hb1 h0 h
      exact pw_range hb0 hb1 n _ this.1 this.2
    · rw [if_neg h]; exact ⟨h0, h1⟩
theorem spec_pw {base bound : Int} (hb0 : 1 ≤ base) (hb1 : base ≤ 10) (hbd : bound ≤ 1000000000000) : ∀ (n k : Nat) (out : Int), (n : Int) ≤ 1000000 → 1 ≤ out → n < k →
    spec_l17Power.l0 k base n bound out = some (pw base bound n out) := by
  intro n
  induction n with
  | zero =>
    intro k out _ _ hk
    obtain ⟨k, rfl⟩ := succ_of_lt hk
    simp only [spec_l17Power.l0]
    rw [if_neg (by simp)]; rfl
  | succ n ih =>
    intro k out hn ho hk
    obtain ⟨k, rfl⟩ := succ_of_lt hk
    simp only [spec_l17Power.l0]
    rw [if_pos (by omega), pw]
    by_cases h : out ≤ bound
    · have hs := pw_step hb0 hb1 ho h
      rw [if_pos h, if_pos h, w64s (x := out * base) (by omega) (by omega), w64s (x := ((n + 1 : Nat) : Int) - 1) (by omega) (by omega), show ((n + 1 : Nat) : Int) - 1 = (n : Int) by omega]
      exact ih k _ (by omega) hs.1 (by omega)
    · rw [if_neg h, if_neg h]
theorem spec_power_eq {base bound n : Int} (hb0 : 1 ≤ base) (hb1 : base ≤ 10) (hbd : bound ≤ 1000000000000) (h0 : 0 ≤ n) (h1 : n ≤ 1000) {k : Nat} (hk : 1000 < k) :
    spec_l17Power.f k base n bound = some (pw base bound n.toNat 1) := by
  unfold spec_l17Power.f
  have := spec_pw hb0 hb1 hbd n.toNat k 1 (by omega) (by omega) (by omega)
  rwa [Int.toNat_of_nonneg h0] at this
theorem impl_pw {base bound e : Int} (hb0 : 1 ≤ base) (hb1 : base ≤ 10) (hbd : bound ≤ 1000000000000) (he : e ≤ 1000000) : ∀ (n k : Nat) (out : Int), (n : Int) ≤ e → 1 ≤ out → out ≤ bound → n < k →
    impl_power.l0 k base bound out e (e - n) = some (pw base bound n out) := by
  intro n
  induction n with
  | zero =>
    intro k out _ _ _ hk
    obtain ⟨k, rfl⟩ := succ_of_lt hk
    simp only [impl_power.l0]
    rw [if_neg (by simp)]; rfl
  | succ n ih =>
    intro k out hn ho hb hk
    obtain ⟨k, rfl⟩ := succ_of_lt hk
    have hs := pw_step hb0 hb1 ho hb
    simp only [impl_power.l0]
    rw [if_pos (by omega), pw, if_pos hb, w64s (x := out * base) (by omega) (by omega)]
    by_cases h : out * base > bound
    · rw [if_pos h, pw_big n h]
    · rw [if_neg h, w64s (by omega) (by omega), show e - ((n + 1 : Nat) : Int) + 1 = e - n by omega]
      exact ih k _ (by omega) hs.1 (by omega) (by omega)
theorem impl_power_eq {base bound n : Int} (hb0 : 1 ≤ base) (hb1 : base ≤ 10) (hbd : bound ≤ 1000000000000) (hbp : 1 ≤ bound) (h0 : 0 ≤ n) (h1 : n ≤ 1000) {k : Nat} (hk : 1000 < k) :
    impl_power.f k base n bound = some (pw base bound n.toNat 1) := by
  unfold impl_power.f
  have := impl_pw hb0 hb1 hbd (e := n) (by omega) n.toNat k 1 (by omega) (by omega) (by omega) (by omega)
  rwa [show n - (n.toNat : Int) = 0 by omega] at this
theorem spec_l17Code_eq (fr a b c : Int) (i : Bool) (m bound : Int) (hbd : bound ≤ 1000000000000) {k : Nat} (hk : 1000 < k) : spec_l17Code.f k fr a b c i m bound =
    some (if FL fr a b c then (if i = true ∧ 1 ≤ m ∧ m ≤ 10 then (if pw m bound (a * c).toNat 1 > bound then 3 else 0) else 2) else 1) := by
  unfold spec_l17Code.f
  have tail : ∀ j : Bool, j = decide (i = true ∧ 1 ≤ m ∧ m ≤ 10) → (spec_l06Code.f fr a b c j).bind (fun t112 => (if t112 = 0 then ((spec_l17Power.f k m (wrap64 (a * c)) bound).bind fun t113 => (if t113 > bound then (some 3) else (some t112))) else (some t112))) =
      some (if FL fr a b c then (if i = true ∧ 1 ≤ m ∧ m ≤ 10 then (if pw m bound (a * c).toNat 1 > bound then 3 else 0) else 2) else 1) := by
    intro j hj
    rw [spec_l06Code_eq]
    by_cases h : FL fr a b c
    · rw [if_pos h, if_pos h]
      by_cases h2 : i = true ∧ 1 ≤ m ∧ m ≤ 10
      · have hj' : j = true := by rw [hj]; exact decide_eq_true h2
        have hm := h.2.mul
        rw [if_pos hj', if_pos h2]
        simp only [Option.bind_some, if_true]
        rw [w64s (by omega) (by omega), spec_power_eq h2.2.1 h2.2.2 hbd (by omega) (by omega) hk]
        simp only [Option.bind_some]
        by_cases h3 : pw m bound (a * c).toNat 1 > bound
        · rw [if_pos h3, if_pos h3]
        · rw [if_neg h3, if_neg h3]
      · have hj' : ¬ j = true := by rw [hj]; simpa using h2
        rw [if_neg hj', if_neg h2]; rfl
    · rw [if_neg h, if_neg h]; rfl
  cases i with
  | true =>
    rw [if_pos rfl, l01In_eq]
    simp only [Option.bind_some]
    simpa using tail (decide (1 ≤ m ∧ m ≤ 10)) (by simp)
  | false =>
    rw [if_neg (by simp)]
    exact tail false (by simp)
theorem impl_coloursCode_eq (fr a b c : Int) (m bound : Int) (hbd : bound ≤ 1000000000000) (hbp : 1 ≤ bound) {k : Nat} (hk : 1000 < k) : impl_coloursCode.f k fr a b c m bound =
    some (if FL fr a b c then (if 1 ≤ m ∧ m ≤ 10 then (if pw m bound (a * c).toNat 1 > bound then 3 else 0) else 2) else 1) := by
  unfold impl_coloursCode.f impl_Lattice_index.f
  rw [impl_frameCode_eq]
  by_cases h : FL fr a b c
  · have hm := h.2.mul
    rw [if_pos h, if_pos h]
    simp only [Option.bind_some, if_true]
    rw [within_eq]
    simp only [Option.bind_some]
    by_cases h2 : 1 ≤ m ∧ m ≤ 10
    · rw [if_pos (by simp [h2]), if_pos h2, w64s (by omega) (by omega), impl_power_eq h2.1 h2.2 hbd hbp (by omega) (by omega) hk]
      simp only [Option.bind_some]
      by_cases h3 : pw m bound (a * c).toNat 1 > bound
      · rw [if_pos h3, if_pos h3]
      · rw [if_neg h3, if_neg h3]
    · rw [if_neg (by simpa using h2), if_neg h2]
  · rw [if_neg h, if_neg h]; rfl
theorem spec_CountPatterns_eq (fr a b c m : Int) {k : Nat} (hk : 1000 < k) : spec_CountPatterns.f k fr a b c m =
    some (if FL fr a b c then (if 1 ≤ m ∧ m ≤ 10 then (if pw m 1000000000000 (a * c).toNat 1 > 1000000000000 then (0, 3) else (pw m 1000000000000 (a * c).toNat 1, 0)) else (0, 2)) else (0, 1)) := by
  unfold spec_CountPatterns.f
  rw [spec_l17Code_eq _ _ _ _ _ _ _ (by omega) hk]
  simp only [Option.bind_some, true_and]
  by_cases h : FL fr a b c
  · have hm := h.2.mul
    rw [if_pos h, if_pos h]
    by_cases h2 : 1 ≤ m ∧ m ≤ 10
    · rw [if_pos h2, if_pos h2]
      by_cases h3 : pw m 1000000000000 (a * c).toNat 1 > 1000000000000
      · rw [if_pos h3, if_pos h3]; rfl
      · rw [if_neg h3, if_neg h3, if_pos rfl, w64s (by omega) (by omega), spec_power_eq h2.1 h2.2 (by omega) (by omega) (by omega) hk]; rfl
    · rw [if_neg h2, if_neg h2]; rfl
  · rw [if_neg h, if_neg h]; rfl
theorem impl_CountPatterns_eq (fr a b c m : Int) {k : Nat} (hk : 1000 < k) : impl_CountPatterns.f k fr a b c m =
    some (if FL fr a b c then (if 1 ≤ m ∧ m ≤ 10 then (if pw m 1000000000000 (a * c).toNat 1 > 1000000000000 then (0, 3) else (pw m 1000000000000 (a * c).toNat 1, 0)) else (0, 2)) else (0, 1)) := by
  unfold impl_CountPatterns.f impl_Lattice_index.f
  rw [impl_coloursCode_eq _ _ _ _ _ _ (by omega) (by omega) hk]
  simp only [Option.bind_some]
  by_cases h : FL fr a b c
  · have hm := h.2.mul
    rw [if_pos h, if_pos h]
    by_cases h2 : 1 ≤ m ∧ m ≤ 10
    · rw [if_pos h2, if_pos h2]
      by_cases h3 : pw m 1000000000000 (a * c).toNat 1 > 1000000000000
      · rw [if_pos h3, if_pos h3]; rfl
      · rw [if_neg h3, if_neg h3, if_pos rfl, w64s (by omega) (by omega), impl_power_eq h2.1 h2.2 (by omega) (by omega) (by omega) (by omega) hk]; rfl
    · rw [if_neg h2, if_neg h2]; rfl
  · rw [if_neg h, if_neg h]; rfl

end Go.Proofs.Ytfkdcngpjppnbaa.LA
