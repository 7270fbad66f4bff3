/- Plain lemmas on looking a word up in a list. -/
import Derived.Test.YtfkdcngpjppnbaaAid
import Derived.Test.YtfkdcngpjppnbaaPAx0
import Derived.Test.YtfkdcngpjppnbaaPAx3
namespace Go.Proofs.Ytfkdcngpjppnbaa.LA
open Go.RowKit Go.Proofs.Ytfkdcngpjppnbaa.PA Go.Proofs.YtfkdcngpjppnbaaW.PrintWords Go.Proofs.YtfkdcngpjppnbaaW.PrintLast Go.Proofs.Ytfkdcngpjppnbaa.Aid
set_option linter.unusedVariables false
set_option linter.unusedSimpArgs false

theorem index_alike (l : List ByteArray) (a : ByteArray) : ∀ (k : Nat) (i : Int),
    slices_Index_string_string.l0 k l a (l.length : Int) i = spec_l12Index.l0 k l a i := by
  intro k
  induction k with
  | zero => intro i; rfl
  | succ k ih =>
    intro i
    simp only [slices_Index_string_string.l0, spec_l12Index.l0]
    by_cases h1 : i < (l.length : Int)
    · rw [if_pos h1, if_pos h1]
      by_cases h0 : 0 ≤ i
      · rw [if_pos h0, if_pos h0, if_pos h1]
        by_cases h2 : a.toList = (rdOf ByteArray.empty l i).toList
        · rw [if_pos h2, if_pos h2.symm]
        · rw [if_neg h2, if_neg (fun h => h2 h.symm), ih]
      · rw [if_neg h0, if_pos h1, if_neg h0]
    · rw [if_neg h1, if_neg h1]
theorem index_some (l : List ByteArray) (a : ByteArray) (hl : (l.length : Int) ≤ 1000000) (d : Nat) : ∀ (k : Nat) (i : Int), 0 ≤ i →
    i ≤ l.length → (l.length : Int) - i = d → d < k → ∃ r, spec_l12Index.l0 k l a i = some r ∧ (r < 0 ∨ 0 ≤ r ∧ r < l.length) := by
  induction d with
  | zero =>
    intro k i h0 h1 hd hk
    obtain ⟨k, rfl⟩ := succ_of_lt hk
    exact ⟨-1, by simp only [spec_l12Index.l0]; rw [if_neg (by omega)], Or.inl (by omega)⟩
  | succ d ih =>
    intro k i h0 h1 hd hk
    obtain ⟨k, rfl⟩ := succ_of_lt hk
    have hlt : i < (l.length : Int) := by omega
    simp only [spec_l12Index.l0]
    rw [if_pos hlt, if_pos h0]
    by_cases h2 : (rdOf ByteArray.empty l i).toList = a.toList
    · exact ⟨i, by rw [if_pos h2], Or.inr ⟨h0, hlt⟩⟩
    · rw [if_neg h2, w64s (by omega) (by omega)]
      exact ih k (i + 1) (by omega) (by omega) (by omega) (by omega)

end Go.Proofs.Ytfkdcngpjppnbaa.LA
