/- Plain lemmas on patterns: the check, copying, comparing and marking. -/
import Derived.Test.YtfhbhjlgepjlfaaDoorAid
import Derived.Test.YtfhbhjlgepjlfaaDoorPRx0
import Derived.Test.YtfhbhjlgepjlfaaDoorLRABasic
import Derived.Test.YtfhbhjlgepjlfaaDoorLRBLists
import Derived.Test.YtfhbhjlgepjlfaaDoorPRx1
import Derived.Test.YtfhbhjlgepjlfaaDoorPRx2
import Derived.Test.YtfhbhjlgepjlfaaDoorPRx3
import Derived.Test.YtfhbhjlgepjlfaaDoorPRx5
namespace Go.Proofs.YtfhbhjlgepjlfaaDoor.LR
open Go.RowKit Go.Proofs.YtfhbhjlgepjlfaaDoor.PR Go.Proofs.YtfhbhjlgepjlfaaDoorW.PrintWords Go.Proofs.YtfhbhjlgepjlfaaDoorW.PrintLast Go.Proofs.YtfhbhjlgepjlfaaDoor.Aid
set_option linter.unusedVariables false
set_option linter.unusedSimpArgs false

/-- A valid pattern. -/
def Pat (fr a b c : Int) (l : List Int) : Prop := FL fr a b c ∧ (l.length : Int) = a * c ∧ ∀ x ∈ l, 0 ≤ x ∧ x ≤ 9
instance (fr a b c : Int) (l : List Int) : Decidable (Pat fr a b c l) := by unfold Pat; infer_instance
theorem Pat.len {fr a b c : Int} {l : List Int} (h : Pat fr a b c l) : (l.length : Int) ≤ 64 := by have := h.1.2.mul; have := h.2.1; omega
theorem impl_IsPattern_eq (fr a b c : Int) (l : List Int) : impl_IsPattern.f fr a b c l = some (decide (Pat fr a b c l)) := by
  unfold impl_IsPattern.f impl_Lattice_index.f
  rw [impl_IsFrame_eq, impl_IsLattice_eq, allWithin_eq]
  simp only [Option.bind_some]
  by_cases h : 0 ≤ fr ∧ fr ≤ 1
  · rw [if_pos (by simp [h])]
    by_cases h2 : Lat a b c
    · rw [if_pos (by simp [h2]), w64s (by have := h2.mul; omega) (by have := h2.mul; omega)]
      by_cases h3 : (l.length : Int) = a * c
      · rw [if_pos h3]
        congr 1; apply decide_eq_decide.2
        exact ⟨fun x => ⟨⟨h, h2⟩, h3, x⟩, fun x => x.2.2⟩
      · rw [if_neg h3]
        congr 1; symm; rw [decide_eq_false_iff_not]; exact fun x => h3 x.2.1
    · rw [if_neg (by simpa using h2)]
      congr 1; symm; rw [decide_eq_false_iff_not]; exact fun x => h2 x.1.2
  · rw [if_neg (by simpa using h)]
    congr 1; symm; rw [decide_eq_false_iff_not]; exact fun x => h x.1.1
theorem spec_IsPattern_eq (fr a b c : Int) (l : List Int) (hl : (l.length : Int) ≤ 1048576) {k : Nat} (hk : l.length < k) : spec_IsPattern.f k fr a b c l = some (decide (Pat fr a b c l)) := by
  unfold spec_IsPattern.f
  rw [spec_l04Code_eq, l01Within_eq l 64 0 9 hl hk]
  simp only [Option.bind_some]
  by_cases h : FL fr a b c
  · rw [if_pos h, if_pos rfl, w64s (by have := h.2.mul; omega) (by have := h.2.mul; omega)]
    by_cases h3 : (l.length : Int) = a * c
    · rw [if_pos h3]
      congr 1; apply decide_eq_decide.2
      exact ⟨fun x => ⟨h, h3, x.1⟩, fun x => ⟨x.2.2, by have := h.2.mul; omega⟩⟩
    · rw [if_neg h3]
      congr 1; symm; rw [decide_eq_false_iff_not]; exact fun x => h3 x.2.1
  · rw [if_neg h, if_neg (by omega)]
    congr 1; symm; rw [decide_eq_false_iff_not]; exact fun x => h x.1
theorem eqLattice_eq (a b c a' b' c' : Int) : laws_eqLattice.f a b c a' b' c' = some (decide (a = a' ∧ b = b' ∧ c = c')) := by
  unfold laws_eqLattice.f
  by_cases h : a = a' <;> by_cases h2 : b = b' <;> by_cases h3 : c = c' <;> simp [h, h2, h3]
theorem eqPattern_eq (fr a b c : Int) (l : List Int) (fr' a' b' c' : Int) (l' : List Int) (hl : (l.length : Int) ≤ 1048576) {k : Nat} (hk : l.length < k) :
    laws_eqPattern.f k fr a b c l fr' a' b' c' l' = some (decide (fr = fr' ∧ a = a' ∧ b = b' ∧ c = c' ∧ l = l')) := by
  unfold laws_eqPattern.f
  rw [eqLattice_eq, eqInt64S_eq l l' hl hk]
  by_cases h : fr = fr'
  · rw [if_pos h]
    simp only [Option.bind_some]
    by_cases h2 : a = a' ∧ b = b' ∧ c = c'
    · obtain ⟨rfl, rfl, rfl⟩ := h2
      by_cases h3 : l = l' <;> simp [h, h3]
    · rw [if_neg (by simpa using h2)]
      congr 1; symm; rw [decide_eq_false_iff_not]; exact fun x => h2 ⟨x.2.1, x.2.2.1, x.2.2.2.1⟩
  · rw [if_neg h]
    congr 1; symm; rw [decide_eq_false_iff_not]; exact fun x => h x.1
theorem markPattern_eq (fr a b c : Int) (l : List Int) (m : Nat) (hl : (l.length : Int) ≤ 1048576) (hm : (m : Int) ≤ 1000000000) {k : Nat} (hk : l.length < k) :
    ∃ x', laws_markPattern.f k fr a b c l m = some ((m : Int) + l.length, x') ∧ x'.length = l.length ∧ ∀ j, j < l.length → x'.getD j 0 = (m : Int) + j := by
  obtain ⟨x', h1, h2, h3⟩ := markInt64S_eq l m hl hm hk
  exact ⟨x', by unfold laws_markPattern.f; rw [h1]; rfl, h2, h3⟩
theorem heldPattern_eq (fr a b c : Int) (x : List Int) (m : Nat) (hl : (x.length : Int) ≤ 1048576) (hm : (m : Int) ≤ 1000000000) (hj : ∀ j, j < x.length → x.getD j 0 = (m : Int) + j) {k : Nat} (hk : x.length < k) :
    laws_heldPattern.f k fr a b c x m = some ((m : Int) + x.length) := by
  unfold laws_heldPattern.f
  rw [heldInt64S_eq x m hl hm hj hk]
  have : ¬ (m : Int) + x.length < 0 := by omega
  simp [this]

end Go.Proofs.YtfhbhjlgepjlfaaDoor.LR
