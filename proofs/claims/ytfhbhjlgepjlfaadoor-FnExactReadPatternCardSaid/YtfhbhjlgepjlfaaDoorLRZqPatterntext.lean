/- Plain lemmas on the texts of lattices and patterns. -/
import Derived.Test.YtfhbhjlgepjlfaaDoorAid
import Derived.Test.YtfhbhjlgepjlfaaDoorPRx0
import Derived.Test.YtfhbhjlgepjlfaaDoorLRABasic
import Derived.Test.YtfhbhjlgepjlfaaDoorLRZpTexts
import Derived.Test.YtfhbhjlgepjlfaaDoorPRx3
namespace Go.Proofs.YtfhbhjlgepjlfaaDoor.LR
open Go.RowKit Go.Proofs.YtfhbhjlgepjlfaaDoor.PR Go.Proofs.YtfhbhjlgepjlfaaDoorW.PrintWords Go.Proofs.YtfhbhjlgepjlfaaDoorW.PrintLast Go.Proofs.YtfhbhjlgepjlfaaDoor.Aid
set_option linter.unusedVariables false
set_option linter.unusedSimpArgs false

/-- A lattice's text. -/
def latTxt (a b c : Int) : ByteArray := ⟨(Lib.join [Lib.itoa a, Lib.itoa b, Lib.itoa c] [44]).toArray⟩
theorem Lat.small {a b c : Int} (h : Lat a b c) : (0 ≤ a ∧ a < 100) ∧ (0 ≤ b ∧ b < 100) ∧ 0 ≤ c ∧ c < 100 := by
  unfold Lat at h; omega
theorem impl_LatticeText_eq (a b c : Int) (h : Lat a b c) {k : Nat} (hk : 50 < k) : impl_LatticeText.f k a b c = some (latTxt a b c) := by
  obtain ⟨ha, hb, hc⟩ := h.small
  unfold impl_LatticeText.f latTxt
  rw [impl_IsLattice_eq, joined_eq [a, b, c] _ (by simp) (fun x hx => text_eq x (by simp at hx; omega) (by simp at hx; omega)) (by
    intro x hx
    have : (0 ≤ x ∧ x < 100) := by simp at hx; omega
    have := itoa_len x this.1 this.2; omega) (by decide) (k := k) (by simp; omega)]
  simp [h]
theorem latTxt_size (a b c : Int) (h : Lat a b c) : (latTxt a b c).size ≤ 1000 := by
  obtain ⟨ha, hb, hc⟩ := h.small
  have := join_len' [44] [Lib.itoa a, Lib.itoa b, Lib.itoa c] (by
    have := itoa_len a ha.1 ha.2
    have := itoa_len b hb.1 hb.2
    have := itoa_len c hc.1 hc.2
    simp; omega)
  simp [latTxt, ByteArray.size] at *; omega
end Go.Proofs.YtfhbhjlgepjlfaaDoor.LR
