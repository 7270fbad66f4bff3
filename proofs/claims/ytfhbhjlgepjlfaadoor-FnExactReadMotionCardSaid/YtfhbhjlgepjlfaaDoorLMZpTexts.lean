/- Plain lemmas on texts: numbers in decimal, joined. -/
import Derived.Test.YtfhbhjlgepjlfaaDoorAid
import Derived.Test.YtfhbhjlgepjlfaaDoorPMx0
import Derived.Test.YtfhbhjlgepjlfaaDoorPMx0
import Derived.Test.YtfhbhjlgepjlfaaDoorPMx2
import Derived.Test.YtfhbhjlgepjlfaaDoorPMx4
import Derived.Lib.ItoaNum
import Derived.Lib.Join
namespace Go.Proofs.YtfhbhjlgepjlfaaDoor.LM
open Go.RowKit Go.Proofs.YtfhbhjlgepjlfaaDoor.PM Go.Proofs.YtfhbhjlgepjlfaaDoorW.PrintWords Go.Proofs.YtfhbhjlgepjlfaaDoorW.PrintLast Go.Proofs.YtfhbhjlgepjlfaaDoor.Aid
set_option linter.unusedVariables false
set_option linter.unusedSimpArgs false

/-- A number's text. -/
def txt (n : Int) : ByteArray := ⟨(Lib.itoa n).toArray⟩
theorem strDigit (n : Nat) (h : n < 10) : strOfNums [wrap64 (48 + (n : Int)) % 256] = ⟨[UInt8.ofNat (48 + n)].toArray⟩ := by
  unfold strOfNums
  rw [w64s (by omega) (by omega)]
  have : ((48 + (n : Int)) % 256).toNat = 48 + n := by omega
  simp [this]
theorem ba_app (a b : List UInt8) : (⟨a.toArray⟩ : ByteArray) ++ ⟨b.toArray⟩ = ⟨(a ++ b).toArray⟩ := by
  apply ByteArray.ext; simp
theorem joinTail_cons (s x : List UInt8) (r : List (List UInt8)) : Lib.joinTail s (x :: r) = s ++ x ++ Lib.joinTail s r := by simp [Lib.joinTail]
theorem l01Dec_eq : ∀ (d n : Nat), n < 10 ^ (d + 1) → n ≤ 9223372036854775807 → d < 9223372036854775800 → ∀ k, d < k →
    spec_l01Dec.f k (n : Int) = some ⟨(Lib.decDigits n).toArray⟩ ∧ (Lib.decDigits n).length ≤ d + 1 := by
  intro d
  induction d with
  | zero =>
    intro n h _ _ k hk
    obtain ⟨k, rfl⟩ : ∃ m, k = m + 1 := ⟨k - 1, by omega⟩
    have h10 : n < 10 := by simpa using h
    rw [Lib.decDigits, dif_pos h10]
    simp only [spec_l01Dec.f]
    rw [if_pos (by omega), strDigit n h10]
    exact ⟨rfl, by simp⟩
  | succ d ih =>
    intro n h hn hd k hk
    obtain ⟨k, rfl⟩ : ∃ m, k = m + 1 := ⟨k - 1, by omega⟩
    by_cases h10 : n < 10
    · rw [Lib.decDigits, dif_pos h10]
      simp only [spec_l01Dec.f]
      rw [if_pos (by omega), strDigit n h10]
      exact ⟨rfl, by simp⟩
    · have e1 : wrap64 (Int.tdiv (n : Int) 10) = ((n / 10 : Nat) : Int) := by
        rw [Int.tdiv_eq_ediv_of_nonneg (by omega), w64s (by omega) (by omega)]; omega
      have e2 : Int.tmod (n : Int) 10 = ((n % 10 : Nat) : Int) := by
        rw [Int.tmod_eq_emod_of_nonneg (by omega)]; omega
      obtain ⟨i1, i2⟩ := ih (n / 10) (by rw [Nat.pow_succ] at h; omega) (by omega) (by omega) k (by omega)
      rw [Lib.decDigits, dif_neg h10]
      simp only [spec_l01Dec.f]
      rw [if_neg (by omega), e1, e2, i1]
      simp only [Option.bind_some]
      rw [strDigit (n % 10) (by omega), ba_app, if_pos (by simp [ByteArray.size]; omega)]
      exact ⟨rfl, by simp; omega⟩
theorem text_eq (n : Int) (h0 : -9223372036854775808 ≤ n) (h1 : n ≤ 9223372036854775807) : impl_text.f n = some (txt n) := by
  unfold impl_text.f strconv_FormatInt.f txt
  rw [if_pos ⟨⟨h0, h1⟩, rfl⟩]
  rfl
theorem itoa_len (n : Int) (h0 : 0 ≤ n) (h1 : n < 100) : (Lib.itoa n).length ≤ 2 := by
  unfold Lib.itoa
  rw [if_neg (by omega)]
  by_cases h : n.toNat < 10
  · rw [Lib.decDigits_one h]; simp
  · rw [Lib.decDigits_two h (by omega)]; simp
end Go.Proofs.YtfhbhjlgepjlfaaDoor.LM
