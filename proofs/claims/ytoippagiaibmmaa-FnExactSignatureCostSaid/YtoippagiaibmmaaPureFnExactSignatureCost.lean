/- FnExactSignatureCost: the program and the reference read a signature in step and reckon the same cost. -/
import Derived.Test.YtoippagiaibmmaaPFnExactSignatureCostx1
import Derived.Test.YtoippagiaibmmaaAid
namespace Go.Proofs.Ytoippagiaibmmaa.Pure
open Go.RowKit Go.Proofs.Ytoippagiaibmmaa.PFnExactSignatureCost Go.Proofs.YtoippagiaibmmaaW.PrintWords Go.Proofs.YtoippagiaibmmaaW.PrintLast Go.Proofs.Ytoippagiaibmmaa.Aid

theorem has_four (k : Nat) (n : Int) : spec_l01Has.f (k + 5) [2, 3, 4, 6] n = some (decide (n = 2 ∨ n = 3 ∨ n = 4 ∨ n = 6)) := by
  unfold spec_l01Has.f
  simp only [spec_l01Has.l0, List.length_cons, List.length_nil]
  have e1 : wrap64 (0 + 1) = 1 := by unfold wrap64; rfl
  have e2 : wrap64 (1 + 1) = 2 := by unfold wrap64; rfl
  have e3 : wrap64 (2 + 1) = 3 := by unfold wrap64; rfl
  have e4 : wrap64 (3 + 1) = 4 := by unfold wrap64; rfl
  simp only [e1, e2, e3, e4]
  have r0 : rd [2, 3, 4, 6] 0 = 2 := rfl
  have r1 : rd [2, 3, 4, 6] 1 = 3 := rfl
  have r2 : rd [2, 3, 4, 6] 2 = 4 := rfl
  have r3 : rd [2, 3, 4, 6] 3 = 6 := rfl
  simp only [r0, r1, r2, r3]
  by_cases h2 : n = 2
  · subst h2; simp
  by_cases h3 : n = 3
  · subst h3; simp
  by_cases h4 : n = 4
  · subst h4; simp
  by_cases h6 : n = 6
  · subst h6; simp
  simp [h2, h3, h4, h6, eq_comm]

theorem has_four' (k : Nat) (hk : 5 ≤ k) (n : Int) : spec_l01Has.f k [2, 3, 4, 6] n = some (decide (n = 2 ∨ n = 3 ∨ n = 4 ∨ n = 6)) := by
  obtain ⟨m, rfl⟩ : ∃ m, k = m + 5 := ⟨k - 5, by omega⟩
  exact has_four m n

theorem step_both (s : ByteArray) (hn : (s.size : Int) ≤ 1048576) (d : Nat) : ∀ (k : Nat) (i c : Int) (b : Bool), 0 ≤ i → i ≤ s.size →
    (s.size : Int) - i = d → d + 6 < k → ∃ r, spec_SignatureCost.l0 k s c b i = some r ∧
      impl_SignatureCost.l0 k s c (if b = true then 2 else 1) (s.size : Int) i = some r := by
  induction d with
  | zero =>
    intro k i c b h0 h1 hd hk
    obtain ⟨k, rfl⟩ := succ_of_lt hk
    simp only [spec_SignatureCost.l0, impl_SignatureCost.l0]
    have hno : ¬ i < (s.size : Int) := by omega
    rw [if_neg hno, if_neg hno]
    by_cases h : (s.size : Int) > 20
    · rw [if_pos h]; exact ⟨_, rfl, rfl⟩
    · rw [if_neg h]; exact ⟨_, rfl, rfl⟩
  | succ d ih =>
    intro k i c b h0 h1 hd hk
    obtain ⟨k, rfl⟩ := succ_of_lt hk
    have hlt : i < (s.size : Int) := by omega
    have hw : wrap64 (i + 1) = i + 1 := w64s (by omega) (by omega)
    have go := fun c' b' => ih k (i + 1) c' b' (by omega) (by omega) (by omega) (by omega)
    have hr := bt_range s i
    have hw1 : wrap64 (bt s i) = bt s i := w64s (by omega) (by omega)
    have hw2 : wrap64 (bt s i - 48) = bt s i - 48 := w64s (by omega) (by omega)
    simp only [spec_SignatureCost.l0, impl_SignatureCost.l0]
    rw [if_pos hlt, if_pos hlt, if_pos h0, if_pos h0, if_pos hlt, hw, hw1, hw2, has_four' k (by omega)]
    generalize bt s i = x at *
    by_cases e1 : x = 111
    · rw [if_pos e1, if_pos e1]; exact go _ _
    rw [if_neg e1, if_neg e1]
    by_cases e2 : x = 42
    · rw [if_pos e2, if_pos e2]; exact go _ true
    rw [if_neg e2, if_neg e2]
    by_cases e3 : x = 120
    · rw [if_pos e3, if_pos e3]; exact go _ _
    rw [if_neg e3, if_neg e3]
    simp only [Option.bind_some]
    by_cases e4 : x = 50
    · subst e4
      cases b
      · simpa [w64s] using go _ false
      · simpa [w64s] using go _ true
    by_cases e5 : x = 51
    · subst e5
      cases b
      · simpa [w64s] using go _ false
      · simpa [w64s] using go _ true
    by_cases e6 : x = 52
    · subst e6
      cases b
      · simpa [w64s] using go _ false
      · simpa [w64s] using go _ true
    by_cases e7 : x = 54
    · subst e7
      cases b
      · simpa [w64s] using go _ false
      · simpa [w64s] using go _ true
    have hno : ¬ (x - 48 = 2 ∨ x - 48 = 3 ∨ x - 48 = 4 ∨ x - 48 = 6) := by omega
    rw [if_neg e4, if_neg e5, if_neg e6, if_neg e7]
    simp only [hno, decide_false]
    exact ⟨_, by simp, rfl⟩

theorem FnExactSignatureCost : laws_FnExactSignatureCost.Pure := by
  intro a _
  by_cases hb : (a.size : Int) > 1048576
  · exact ⟨0, by unfold laws_FnExactSignatureCost.f; rw [if_pos hb]⟩
  · obtain ⟨r, h1, h2⟩ := step_both a (by omega) a.size (a.size + 7) 0 0 false (by omega) (by omega) (by omega) (by omega)
    refine ⟨a.size + 7, ?_⟩
    unfold laws_FnExactSignatureCost.f spec_SignatureCost.f impl_SignatureCost.f
    rw [if_neg hb, h1]
    simp only [Bool.false_eq_true, if_false] at h2
    rw [h2]
    simp

end Go.Proofs.Ytoippagiaibmmaa.Pure
