/- Plain lemmas on the checks of frames, vectors, matrices and lattices. -/
import Derived.Test.YtfmjboloeabjmaaAid
import Derived.Test.YtfmjboloeabjmaaPAx0
import Derived.Test.YtfmjboloeabjmaaPAx11
import Derived.Test.YtfmjboloeabjmaaPAx12
import Derived.Test.YtfmjboloeabjmaaPAx5
namespace Go.Proofs.Ytfmjboloeabjmaa.LA
open Go.RowKit Go.Proofs.Ytfmjboloeabjmaa.PA Go.Proofs.YtfmjboloeabjmaaW.PrintWords Go.Proofs.YtfmjboloeabjmaaW.PrintLast Go.Proofs.Ytfmjboloeabjmaa.Aid
set_option linter.unusedVariables false
set_option linter.unusedSimpArgs false

theorem b2 {p q : Prop} [Decidable p] [Decidable q] : (if p then (some (decide q)) else (some false) : Option Bool) = some (decide (p ∧ q)) := by
  by_cases h : p <;> simp [h]
theorem within_eq (a b c : Int) : impl_within.f a b c = some (decide (b ≤ a ∧ a ≤ c)) := by
  unfold impl_within.f; exact b2
theorem l01In_eq (a b c : Int) : spec_l01In.f a b c = some (decide (b ≤ a ∧ a ≤ c)) := by
  unfold spec_l01In.f; exact b2
theorem impl_IsFrame_eq (a : Int) : impl_IsFrame.f a = some (decide (0 ≤ a ∧ a ≤ 1)) := by
  unfold impl_IsFrame.f; rw [within_eq]; rfl
theorem spec_IsFrame_eq (a : Int) : spec_IsFrame.f a = some (decide (0 ≤ a ∧ a ≤ 1)) := by
  unfold spec_IsFrame.f
  by_cases h : a = 0
  · subst h; simp
  · rw [if_neg h]
    by_cases h1 : a = 1
    · subst h1; simp
    · have : (a == 1) = false := by simpa using h1
      rw [this]
      congr 1
      symm
      rw [decide_eq_false_iff_not]; omega
/-- A valid lattice. -/
def Lat (a b c : Int) : Prop := 1 ≤ a ∧ a ≤ 64 ∧ 1 ≤ c ∧ c ≤ 64 ∧ 0 ≤ b ∧ b ≤ a - 1 ∧ a * c ≤ 64
instance (a b c : Int) : Decidable (Lat a b c) := by unfold Lat; infer_instance
theorem Lat.mul {a b c : Int} (h : Lat a b c) : 1 ≤ a * c ∧ a * c ≤ 64 := by
  obtain ⟨h1, h2, h3, h4, h5, h6, h7⟩ := h
  refine ⟨?_, h7⟩
  have : 1 * 1 ≤ a * c := Int.mul_le_mul h1 h3 (by omega) (by omega)
  omega
theorem mul_bound {a c : Int} (h1 : 1 ≤ a) (h2 : a ≤ 64) (h3 : 1 ≤ c) (h4 : c ≤ 64) : 1 ≤ a * c ∧ a * c ≤ 4096 := by
  have x : 1 * 1 ≤ a * c := Int.mul_le_mul h1 h3 (by omega) (by omega)
  have y : a * c ≤ 64 * 64 := Int.mul_le_mul h2 h4 (by omega) (by omega)
  omega
theorem impl_IsLattice_eq (a b c : Int) : impl_IsLattice.f a b c = some (decide (Lat a b c)) := by
  unfold impl_IsLattice.f impl_Lattice_index.f
  simp only [within_eq, Option.bind_some]
  by_cases h1 : 1 ≤ a ∧ a ≤ 64
  · rw [if_pos (by simp [h1])]
    by_cases h2 : 1 ≤ c ∧ c ≤ 64
    · rw [if_pos (by simp [h2]), w64s (x := a - 1) (by omega) (by omega)]
      have := mul_bound h1.1 h1.2 h2.1 h2.2
      rw [w64s (x := a * c) (by omega) (by omega)]
      by_cases h3 : 0 ≤ b ∧ b ≤ a - 1
      · rw [if_pos (by simp [h3])]
        congr 1
        apply decide_eq_decide.2
        constructor
        · intro h; exact ⟨h1.1, h1.2, h2.1, h2.2, h3.1, h3.2, h⟩
        · intro h; exact h.2.2.2.2.2.2
      · rw [if_neg (by simpa using h3)]
        congr 1; symm; rw [decide_eq_false_iff_not]; intro h; exact h3 ⟨h.2.2.2.2.1, h.2.2.2.2.2.1⟩
    · rw [if_neg (by simpa using h2)]
      congr 1; symm; rw [decide_eq_false_iff_not]; intro h; exact h2 ⟨h.2.2.1, h.2.2.2.1⟩
  · rw [if_neg (by simpa using h1)]
    congr 1; symm; rw [decide_eq_false_iff_not]; intro h; exact h1 ⟨h.1, h.2.1⟩
theorem spec_IsLattice_eq (a b c : Int) : spec_IsLattice.f a b c = some (decide (Lat a b c)) := by
  unfold spec_IsLattice.f
  simp only [l01In_eq, Option.bind_some]
  by_cases h1 : 1 ≤ a ∧ a ≤ 64
  · rw [if_pos (by simp [h1])]
    by_cases h2 : 1 ≤ c ∧ c ≤ 64
    · rw [if_pos (by simp [h2]), w64s (x := a - 1) (by omega) (by omega)]
      have := mul_bound h1.1 h1.2 h2.1 h2.2
      rw [w64s (x := a * c) (by omega) (by omega)]
      by_cases h3 : 0 ≤ b ∧ b ≤ a - 1
      · rw [if_pos (by simp [h3])]
        congr 1
        apply decide_eq_decide.2
        constructor
        · intro h; exact ⟨h1.1, h1.2, h2.1, h2.2, h3.1, h3.2, h⟩
        · intro h; exact h.2.2.2.2.2.2
      · rw [if_neg (by simpa using h3)]
        congr 1; symm; rw [decide_eq_false_iff_not]; intro h; exact h3 ⟨h.2.2.2.2.1, h.2.2.2.2.2.1⟩
    · rw [if_neg (by simpa using h2)]
      congr 1; symm; rw [decide_eq_false_iff_not]; intro h; exact h2 ⟨h.2.2.1, h.2.2.2.1⟩
  · rw [if_neg (by simpa using h1)]
    congr 1; symm; rw [decide_eq_false_iff_not]; intro h; exact h1 ⟨h.1, h.2.1⟩
/-- A valid frame and a valid lattice. -/
def FL (fr a b c : Int) : Prop := (0 ≤ fr ∧ fr ≤ 1) ∧ Lat a b c
instance (fr a b c : Int) : Decidable (FL fr a b c) := by unfold FL; infer_instance
theorem toLattice_eq (a b c : Int) : laws_toLattice.f a b c = some (a, b, c) := rfl
theorem impl_frameCode_eq (fr a b c : Int) : impl_frameCode.f fr a b c = some (if FL fr a b c then 0 else 1) := by
  unfold impl_frameCode.f
  rw [impl_IsFrame_eq, impl_IsLattice_eq]
  simp only [Option.bind_some]
  by_cases h : 0 ≤ fr ∧ fr ≤ 1
  · rw [if_pos (by simp [h])]
    by_cases h2 : Lat a b c
    · simp [FL, h, h2]
    · simp [FL, h2]
  · rw [if_neg (by simpa using h), if_neg (fun x => h x.1)]
theorem spec_l04Code_eq (fr a b c : Int) : spec_l04Code.f fr a b c = some (if FL fr a b c then 0 else 1) := by
  unfold spec_l04Code.f
  rw [spec_IsFrame_eq, spec_IsLattice_eq]
  simp only [Option.bind_some]
  by_cases h : 0 ≤ fr ∧ fr ≤ 1
  · rw [if_pos (by simp [h])]
    by_cases h2 : Lat a b c
    · simp [FL, h, h2]
    · simp [FL, h2]
  · rw [if_neg (by simpa using h), if_neg (fun x => h x.1)]
theorem spec_l06Code_eq (fr a b c : Int) (i : Bool) : spec_l06Code.f fr a b c i = some (if FL fr a b c then (if i = true then 0 else 2) else 1) := by
  unfold spec_l06Code.f
  rw [spec_l04Code_eq]
  by_cases h : FL fr a b c
  · simp only [if_pos h, Option.bind_some]; cases i <;> rfl
  · simp only [if_neg h, Option.bind_some]; rfl
theorem Ev.one {α : Type} {g : Nat → Option α} {r : α} (h : ∀ k, g (k + 1) = some r) : Ev g r := ⟨1, fun k hk => by obtain ⟨m, rfl⟩ : ∃ m, k = m + 1 := ⟨k - 1, by omega⟩; exact h m⟩
theorem Ev.all {α : Type} {g : Nat → Option α} {r : α} (h : ∀ k, g k = some r) : Ev g r := ⟨0, fun k _ => h k⟩
theorem Ev.from' {α : Type} {g f : Nat → Option α} {r : α} (n : Nat) (h : ∀ k, n ≤ k → g (k + 1) = f k) (e : Ev f r) : Ev g r := by
  obtain ⟨K, hK⟩ := e
  refine ⟨K + n + 1, fun k hk => ?_⟩
  obtain ⟨j, rfl⟩ : ∃ j, k = j + 1 := ⟨k - 1, by omega⟩
  rw [h j (by omega)]; exact hK j (by omega)
end Go.Proofs.Ytfmjboloeabjmaa.LA
