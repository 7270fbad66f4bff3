/- Plain lemmas on the texts of lattices and patterns. -/
import Derived.Test.YtkjdndikgekidaaDoorAid
import Derived.Test.YtkjdndikgekidaaDoorPAx0
import Derived.Test.YtkjdndikgekidaaDoorLAABasic
import Derived.Test.YtkjdndikgekidaaDoorLAEPattern
import Derived.Test.YtkjdndikgekidaaDoorLAZpTexts
import Derived.Test.YtkjdndikgekidaaDoorPAx0
import Derived.Test.YtkjdndikgekidaaDoorPAx1
import Derived.Test.YtkjdndikgekidaaDoorPAx2
namespace Go.Proofs.YtkjdndikgekidaaDoor.LA
open Go.RowKit Go.Proofs.YtkjdndikgekidaaDoor.PA Go.Proofs.YtkjdndikgekidaaDoorW.PrintWords Go.Proofs.YtkjdndikgekidaaDoorW.PrintLast Go.Proofs.YtkjdndikgekidaaDoor.Aid
set_option linter.unusedVariables false
set_option linter.unusedSimpArgs false

/-- A lattice's text. -/
def latTxt (a b c : Int) : ByteArray := ⟨(Lib.join [Lib.itoa a, Lib.itoa b, Lib.itoa c] [44]).toArray⟩
theorem Lat.small {a b c : Int} (h : Lat a b c) : (0 ≤ a ∧ a < 100) ∧ (0 ≤ b ∧ b < 100) ∧ 0 ≤ c ∧ c < 100 := by
  unfold Lat at h; omega
theorem spec_LatticeText_eq (a b c : Int) (h : Lat a b c) {k : Nat} (hk : 50 < k) : spec_LatticeText.f k a b c = some (latTxt a b c) := by
  obtain ⟨ha, hb, hc⟩ := h.small
  unfold spec_LatticeText.f latTxt
  rw [spec_IsLattice_eq, l01Join_eq [a, b, c] _ (by simp) (by simp; omega) (by decide) (k := k) (by simp; omega)]
  simp [h]
theorem impl_LatticeText_eq (a b c : Int) (h : Lat a b c) {k : Nat} (hk : 50 < k) : impl_LatticeText.f k a b c = some (latTxt a b c) := by
  obtain ⟨ha, hb, hc⟩ := h.small
  unfold impl_LatticeText.f latTxt
  rw [impl_IsLattice_eq, joined_eq [a, b, c] _ (by simp) (by simp [text_eq, ha, hb, hc]) (by
    intro x hx
    have : (0 ≤ x ∧ x < 100) := by simp at hx; omega
    have := itoa_len x this.1 this.2; omega) (by decide) (k := k) (by simp; omega)]
  simp [h]
theorem latTxt_size (a b c : Int) (h : Lat a b c) : (latTxt a b c).size ≤ 1000 := by
  obtain ⟨ha, hb, hc⟩ := h.small
  have := join_len' [44] [Lib.itoa a, Lib.itoa b, Lib.itoa c] (by
    have := itoa_len a ha.1 ha.2
    have := itoa_len b hb.1 hb.2
    have := itoa_len c hc.1 hc.2
    simp; omega)
  simp [latTxt, ByteArray.size] at *; omega
theorem patternText_eq (fr a b c : Int) (l : List Int) (h : Pat fr a b c l) {k : Nat} (hk : 1000 < k) :
    ∃ s, spec_l09Text.f k fr a b c l = some s ∧ impl_patternText.f k fr a b c l = some s := by
  have hlen := h.len
  obtain ⟨hfl, _, hcol⟩ := h
  have hL : Lat a b c := hfl.2
  have hz := latTxt_size a b c hL
  have e1 := l01Join_eq l ⟨#[]⟩ (by omega) (fun x hx => by have := hcol x hx; omega) (by decide) (k := k) (by omega)
  have e2 : impl_digitsText.f k l = some ⟨(Lib.join (l.map Lib.itoa) (⟨#[]⟩ : ByteArray).data.toList).toArray⟩ := by
    unfold impl_digitsText.f
    rw [joined_eq l ⟨#[]⟩ (by omega) (fun x hx => text_eq x (by have := hcol x hx; omega) (by have := hcol x hx; omega)) (fun x hx => by have := itoa_len x (by have := hcol x hx; omega) (by have := hcol x hx; omega); omega) (by decide) (k := k) (by omega)]
    rfl
  have hz2 := join_len' (⟨#[]⟩ : ByteArray).data.toList (l.map Lib.itoa) (by
    intro x hx
    obtain ⟨y, hy, rfl⟩ := List.mem_map.1 hx
    have := itoa_len y (by have := hcol y hy; omega) (by have := hcol y hy; omega); omega)
  have hz3 : (Lib.join (l.map Lib.itoa) (⟨#[]⟩ : ByteArray).data.toList).length ≤ 64 * 21 := by
    rw [List.length_map] at hz2
    have : l.length * ((⟨#[]⟩ : ByteArray).data.toList.length + 21) ≤ 64 * 21 := Nat.mul_le_mul (by omega) (by simp)
    omega
  obtain ⟨f0, f1⟩ := hfl.1
  unfold spec_l09Text.f impl_patternText.f
  rw [spec_LatticeText_eq a b c hL (k := k) (by omega), impl_LatticeText_eq a b c hL (k := k) (by omega), e1, e2]
  simp only [Option.bind_some]
  generalize Lib.join (l.map Lib.itoa) (⟨#[]⟩ : ByteArray).data.toList = J at *
  generalize latTxt a b c = L at *
  have hJ : (⟨J.toArray⟩ : ByteArray).size ≤ 64 * 21 := by simpa [ByteArray.size] using hz3
  generalize (⟨J.toArray⟩ : ByteArray) = J2 at *
  have hw : wrap64 (fr + 1) = fr + 1 := w64s (by omega) (by omega)
  rw [hw]
  have hx : ∃ q : ByteArray, (⟨#[83, 72]⟩ : ByteArray).extract fr.toNat (fr + 1).toNat = q ∧ q.size = 1 := by
    refine ⟨_, rfl, ?_⟩
    rcases (by omega : fr = 0 ∨ fr = 1) with rfl | rfl <;> decide
  obtain ⟨q, hq, hq1⟩ := hx
  rw [hq]
  have s1 : (⟨#[32]⟩ : ByteArray).size = 1 := by decide
  rw [if_pos f0, if_pos (by omega), if_pos (by omega), if_pos (by omega), if_pos (by simp only [ByteArray.size_append]; omega), if_pos (by simp only [ByteArray.size_append]; omega), if_pos (by simp only [ByteArray.size_append]; omega)]
  exact ⟨_, rfl, rfl⟩

end Go.Proofs.YtkjdndikgekidaaDoor.LA
