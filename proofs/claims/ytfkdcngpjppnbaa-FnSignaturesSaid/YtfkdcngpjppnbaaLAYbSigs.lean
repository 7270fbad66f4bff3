/- Plain lemmas on names and signatures: what a word is found at, and what each signature costs. -/
import Derived.Test.YtfkdcngpjppnbaaAid
import Derived.Test.YtfkdcngpjppnbaaPAx0
import Derived.Test.YtfkdcngpjppnbaaLACNames
import Derived.Test.YtfkdcngpjppnbaaLAYaDraw
import Derived.Test.YtfkdcngpjppnbaaPAx0
import Derived.Test.YtfkdcngpjppnbaaPAx2
import Derived.Test.YtfkdcngpjppnbaaPAx3
namespace Go.Proofs.Ytfkdcngpjppnbaa.LA
open Go.RowKit Go.Proofs.Ytfkdcngpjppnbaa.PA Go.Proofs.YtfkdcngpjppnbaaW.PrintWords Go.Proofs.YtfkdcngpjppnbaaW.PrintLast Go.Proofs.Ytfkdcngpjppnbaa.Aid
set_option linter.unusedVariables false
set_option linter.unusedSimpArgs false

theorem index_at (l : List ByteArray) (a : ByteArray) (hl : (l.length : Int) ≤ 1000000) (d : Nat) : ∀ (k : Nat) (i : Int), 0 ≤ i →
    i ≤ l.length → (l.length : Int) - i = d → d < k → ∃ r, spec_l12Index.l0 k l a i = some r ∧ (r < 0 ∨ (0 ≤ r ∧ r < l.length ∧ (rdOf ByteArray.empty l r).toList = a.toList)) := by
  induction d with
  | zero =>
    intro k i h0 h1 hd hk
    obtain ⟨k, rfl⟩ := succ_of_lt hk
    exact ⟨-1, by simp only [spec_l12Index.l0]; rw [if_neg (by omega)], Or.inl (by omega)⟩
  | succ d ih =>
    intro k i h0 h1 hd hk
    obtain ⟨k, rfl⟩ := succ_of_lt hk
    have hlt : i < (l.length : Int) := by omega
    simp only [spec_l12Index.l0]
    rw [if_pos hlt, if_pos h0]
    by_cases h2 : (rdOf ByteArray.empty l i).toList = a.toList
    · exact ⟨i, by rw [if_pos h2], Or.inr ⟨h0, hlt, h2⟩⟩
    · rw [if_neg h2, w64s (by omega) (by omega)]
      exact ih k (i + 1) (by omega) (by omega) (by omega) (by omega)
theorem index_hit (l : List ByteArray) (a : ByteArray) (hl : (l.length : Int) ≤ 1000000) (i : Nat) (hi : i < l.length) (he : (rdOf ByteArray.empty l (i : Int)).toList = a.toList) (hn : ∀ j : Nat, j < i → (rdOf ByteArray.empty l (j : Int)).toList ≠ a.toList) (d : Nat) :
    ∀ (k j : Nat), j ≤ i → i - j = d → d < k → spec_l12Index.l0 k l a j = some (i : Int) := by
  induction d with
  | zero =>
    intro k j hj hd hk
    obtain ⟨k, rfl⟩ := succ_of_lt hk
    obtain rfl : j = i := by omega
    simp only [spec_l12Index.l0]
    rw [if_pos (by omega), if_pos (by omega), if_pos he]
  | succ d ih =>
    intro k j hj hd hk
    obtain ⟨k, rfl⟩ := succ_of_lt hk
    simp only [spec_l12Index.l0]
    rw [if_pos (by omega), if_pos (by omega), if_neg (hn j (by omega)), w64s (by omega) (by omega)]
    exact ih k (j + 1) (by omega) (by omega) (by omega)
def namesL : List ByteArray := (impl_GroupNames.f).getD []
def sigsL : List ByteArray := (impl_signatures.f).getD []
theorem names1 : impl_GroupNames.f = some namesL := rfl
theorem names2 : spec_GroupNames.f = some namesL := rfl
theorem sigs1 : impl_signatures.f = some sigsL := rfl
theorem sigs2 : spec_l12Signatures.f = some sigsL := rfl
theorem len_names : namesL.length = 17 := rfl
theorem len_sigs : sigsL.length = 17 := rfl
theorem wlook (l : List ByteArray) (hl : l.length = 17) (a : ByteArray) (k : Nat) (hk : 20 ≤ k) : ∃ r : Int, slices_Index_string_string.f k l a = some r ∧ spec_l12Index.f k l a = some r ∧ (r < 0 ∨ (0 ≤ r ∧ r < 17 ∧ (rdOf ByteArray.empty l r).toList = a.toList)) := by
  obtain ⟨r, h1, h2⟩ := index_at l a (by omega) 17 k 0 (by omega) (by omega) (by omega) (by omega)
  refine ⟨r, ?_, h1, ?_⟩
  · unfold slices_Index_string_string.f; rw [index_alike]; exact h1
  · rw [hl] at h2; exact h2
theorem cases17 {r : Int} (h0 : 0 ≤ r) (h1 : r < 17) : r = 0 ∨ r = 1 ∨ r = 2 ∨ r = 3 ∨ r = 4 ∨ r = 5 ∨ r = 6 ∨ r = 7 ∨ r = 8 ∨ r = 9 ∨ r = 10 ∨ r = 11 ∨ r = 12 ∨ r = 13 ∨ r = 14 ∨ r = 15 ∨ r = 16 := by omega
def sigD : List (List UInt8) := sigsL.map fun s => s.data.toList
theorem sig_toList (r : Int) (h0 : 0 ≤ r) (h1 : r < 17) : (rdOf ByteArray.empty sigsL r).toList = sigD.getD r.toNat [] := by
  rcases cases17 h0 h1 with rfl | rfl | rfl | rfl | rfl | rfl | rfl | rfl | rfl | rfl | rfl | rfl | rfl | rfl | rfl | rfl | rfl <;> exact ByteArray.toList_mk _
theorem sigD_apart : ∀ i : Nat, i < 17 → ∀ j : Nat, j < i → sigD.getD j [] ≠ sigD.getD i [] := by decide
theorem sig_back (r : Int) (h0 : 0 ≤ r) (h1 : r < 17) (k : Nat) (hk : 20 ≤ k) : slices_Index_string_string.f k sigsL (rdOf ByteArray.empty sigsL r) = some r := by
  obtain ⟨i, rfl⟩ := Int.eq_ofNat_of_zero_le h0
  have := index_hit sigsL (rdOf ByteArray.empty sigsL (i : Int)) (by rw [len_sigs]; omega) i (by rw [len_sigs]; omega) rfl (fun j hj => by
    rw [sig_toList _ (by omega) (by omega), sig_toList _ (by omega) (by omega)]
    simpa using sigD_apart i (by omega) j hj) i k 0 (by omega) (by omega) (by omega)
  unfold slices_Index_string_string.f
  rw [index_alike]; exact this
theorem sig_cost (r : Int) (h0 : 0 ≤ r) (h1 : r < 17) : impl_SignatureCost.f 199 (rdOf ByteArray.empty sigsL r) = some (48, 0) := by
  rcases cases17 h0 h1 with rfl | rfl | rfl | rfl | rfl | rfl | rfl | rfl | rfl | rfl | rfl | rfl | rfl | rfl | rfl | rfl | rfl <;> decide +kernel
theorem has_four (k : Nat) (n : Int) : spec_l01Has.f (k + 5) [2, 3, 4, 6] n = some (decide (n = 2 ∨ n = 3 ∨ n = 4 ∨ n = 6)) := by
  unfold spec_l01Has.f
  simp only [spec_l01Has.l0, List.length_cons, List.length_nil]
  have e1 : wrap64 (0 + 1) = 1 := by unfold wrap64; rfl
  have e2 : wrap64 (1 + 1) = 2 := by unfold wrap64; rfl
  have e3 : wrap64 (2 + 1) = 3 := by unfold wrap64; rfl
  have e4 : wrap64 (3 + 1) = 4 := by unfold wrap64; rfl
  simp only [e1, e2, e3, e4]
  have r0 : rd [2, 3, 4, 6] 0 = 2 := rfl
  have r1 : rd [2, 3, 4, 6] 1 = 3 := rfl
  have r2 : rd [2, 3, 4, 6] 2 = 4 := rfl
  have r3 : rd [2, 3, 4, 6] 3 = 6 := rfl
  simp only [r0, r1, r2, r3]
  by_cases h2 : n = 2
  · subst h2; simp
  by_cases h3 : n = 3
  · subst h3; simp
  by_cases h4 : n = 4
  · subst h4; simp
  by_cases h6 : n = 6
  · subst h6; simp
  simp [h2, h3, h4, h6, eq_comm]
theorem has_four' (k : Nat) (hk : 5 ≤ k) (n : Int) : spec_l01Has.f k [2, 3, 4, 6] n = some (decide (n = 2 ∨ n = 3 ∨ n = 4 ∨ n = 6)) := by
  obtain ⟨m, rfl⟩ : ∃ m, k = m + 5 := ⟨k - 5, by omega⟩
  exact has_four m n
theorem sc_range (s : ByteArray) (i : Int) : 0 ≤ bt s i ∧ bt s i ≤ 255 := by
  unfold bt
  split
  · rename_i h
    have := (s[i.toNat]'h).toNat_lt
    omega
  · omega
theorem cost_both (s : ByteArray) (hn : (s.size : Int) ≤ 1048576) (d : Nat) : ∀ (k : Nat) (i c : Int) (b : Bool), 0 ≤ i → i ≤ s.size →
    (s.size : Int) - i = d → d + 6 < k → ∃ r, spec_SignatureCost.l0 k s c b i = some r ∧
      impl_SignatureCost.l0 k s c (if b = true then 2 else 1) (s.size : Int) i = some r := by
  induction d with
  | zero =>
    intro k i c b h0 h1 hd hk
    obtain ⟨k, rfl⟩ := succ_of_lt hk
    simp only [spec_SignatureCost.l0, impl_SignatureCost.l0]
    have hno : ¬ i < (s.size : Int) := by omega
    rw [if_neg hno, if_neg hno]
    by_cases h : (s.size : Int) > 20
    · rw [if_pos h]; exact ⟨_, rfl, rfl⟩
    · rw [if_neg h]; exact ⟨_, rfl, rfl⟩
  | succ d ih =>
    intro k i c b h0 h1 hd hk
    obtain ⟨k, rfl⟩ := succ_of_lt hk
    have hlt : i < (s.size : Int) := by omega
    have hw : wrap64 (i + 1) = i + 1 := w64s (by omega) (by omega)
    have go := fun c' b' => ih k (i + 1) c' b' (by omega) (by omega) (by omega) (by omega)
    have hr := sc_range s i
    have hw1 : wrap64 (bt s i) = bt s i := w64s (by omega) (by omega)
    have hw2 : wrap64 (bt s i - 48) = bt s i - 48 := w64s (by omega) (by omega)
    simp only [spec_SignatureCost.l0, impl_SignatureCost.l0]
    rw [if_pos hlt, if_pos hlt, if_pos h0, if_pos h0, if_pos hlt, hw, hw1, hw2, has_four' k (by omega)]
    generalize bt s i = x at *
    by_cases e1 : x = 111
    · rw [if_pos e1, if_pos e1]; exact go _ _
    rw [if_neg e1, if_neg e1]
    by_cases e2 : x = 42
    · rw [if_pos e2, if_pos e2]; exact go _ true
    rw [if_neg e2, if_neg e2]
    by_cases e3 : x = 120
    · rw [if_pos e3, if_pos e3]; exact go _ _
    rw [if_neg e3, if_neg e3]
    simp only [Option.bind_some]
    by_cases e4 : x = 50
    · subst e4
      cases b
      · simpa [w64s] using go _ false
      · simpa [w64s] using go _ true
    by_cases e5 : x = 51
    · subst e5
      cases b
      · simpa [w64s] using go _ false
      · simpa [w64s] using go _ true
    by_cases e6 : x = 52
    · subst e6
      cases b
      · simpa [w64s] using go _ false
      · simpa [w64s] using go _ true
    by_cases e7 : x = 54
    · subst e7
      cases b
      · simpa [w64s] using go _ false
      · simpa [w64s] using go _ true
    have hno : ¬ (x - 48 = 2 ∨ x - 48 = 3 ∨ x - 48 = 4 ∨ x - 48 = 6) := by omega
    rw [if_neg e4, if_neg e5, if_neg e6, if_neg e7]
    simp only [hno, decide_false]
    exact ⟨_, by simp, rfl⟩
theorem draw_name {l : List Int} (hb : Byt l) {p s : Int} (h : Src l p s) : ∃ a p' s', spec_l12Draw.f l p s = some (a, p', s') ∧ Src l p' s' := by
  obtain ⟨r, p1, s1, e1, h1, -, -⟩ := next_some hb h (n := 24) (by omega)
  unfold spec_l12Draw.f
  rw [e1, Option.bind_some]
  dsimp only
  by_cases c : r = 0
  · rw [if_pos c, Option.bind_some]
    obtain ⟨q, p2, s2, e2, h2, q0, q1⟩ := next_some hb h1 (n := 4) (by omega)
    rw [e2, Option.bind_some]
    dsimp only
    rw [if_pos q0, if_pos (by simpa using q1 (by omega))]
    exact ⟨_, _, _, rfl, h2⟩
  · rw [if_neg c, names2, Option.bind_some]
    obtain ⟨q, p2, s2, e2, h2, q0, q1⟩ := next_some hb h1 (n := 17) (by omega)
    rw [e2, Option.bind_some]
    dsimp only
    rw [if_pos q0, if_pos (by rw [len_names]; exact q1 (by omega))]
    exact ⟨_, _, _, rfl, h2⟩
theorem cost_fill {l : List Int} (hb : Byt l) (d : Nat) : ∀ (k : Nat) (x : ByteArray) (p s : Int), Src l p s → x.size ≤ 20 → 20 - x.size = d → d < k → ∃ t, spec_DrawSignatureCost.l1 k x l p s = some t ∧ t.size ≤ 30 := by
  induction d with
  | zero =>
    intro k x p s h hx hd hk
    obtain ⟨k, rfl⟩ := succ_of_lt hk
    simp only [spec_DrawSignatureCost.l1]
    obtain ⟨r, p1, s1, e1, h1, r0, r1⟩ := next_some hb h (n := 2) (by omega)
    have hr := r1 (by omega)
    have hs : ((⟨#[52]⟩ : ByteArray).extract 0 r.toNat).size ≤ 1 := by rw [ByteArray.size_extract]; exact Nat.le_trans (Nat.sub_le _ _) (Nat.min_le_right _ _)
    rw [if_neg (by omega), e1, Option.bind_some]
    dsimp only
    rw [if_pos r0, if_pos (by omega), if_pos (by omega)]
    exact ⟨_, rfl, by rw [ByteArray.size_append]; omega⟩
  | succ d ih =>
    intro k x p s h hx hd hk
    obtain ⟨k, rfl⟩ := succ_of_lt hk
    simp only [spec_DrawSignatureCost.l1]
    rw [if_pos (by omega), if_pos (by omega)]
    have hs : (x ++ (⟨#[50]⟩ : ByteArray)).size = x.size + 1 := by rw [ByteArray.size_append]; rfl
    exact ih k _ p s h (by omega) (by omega) (by omega)
def seven : List ByteArray := [⟨#[111]⟩, ⟨#[42]⟩, ⟨#[120]⟩, ⟨#[50]⟩, ⟨#[51]⟩, ⟨#[52]⟩, ⟨#[54]⟩]
theorem seven_size (r : Int) (h0 : 0 ≤ r) (h1 : r < 7) : (rdOf ByteArray.empty seven r).size = 1 := by
  have : r = 0 ∨ r = 1 ∨ r = 2 ∨ r = 3 ∨ r = 4 ∨ r = 5 ∨ r = 6 := by omega
  rcases this with rfl | rfl | rfl | rfl | rfl | rfl | rfl <;> rfl
theorem cost_draw {l : List Int} (hb : Byt l) (d : Nat) : ∀ (k : Nat) (x : ByteArray) (n p s : Int), Src l p s → n = d → x.size + d ≤ 8 → d + 30 < k → ∃ t, spec_DrawSignatureCost.l0 k x n l p s = some t ∧ t.size ≤ 30 := by
  induction d with
  | zero =>
    intro k x n p s h hn hx hk
    obtain ⟨k, rfl⟩ := succ_of_lt hk
    simp only [spec_DrawSignatureCost.l0]
    obtain ⟨r, p1, s1, e1, h1, r0, r1⟩ := next_some hb h (n := 24) (by omega)
    rw [if_neg (by omega), e1, Option.bind_some]
    dsimp only
    by_cases c : r = 0
    · rw [if_pos c, if_pos (by omega)]
      exact ⟨_, rfl, by rw [ByteArray.size_append]; show x.size + 1 ≤ 30; omega⟩
    · rw [if_neg c]
      by_cases c1 : r = 1
      · rw [if_pos c1]; exact cost_fill hb (20 - x.size) k x p1 s1 h1 (by omega) rfl (by omega)
      · rw [if_neg c1]; exact ⟨_, rfl, by omega⟩
  | succ d ih =>
    intro k x n p s h hn hx hk
    obtain ⟨k, rfl⟩ := succ_of_lt hk
    simp only [spec_DrawSignatureCost.l0]
    obtain ⟨r, p1, s1, e1, h1, r0, r1⟩ := next_some hb h (n := 7) (by omega)
    have z : (rdOf ByteArray.empty [(⟨#[111]⟩ : ByteArray), ⟨#[42]⟩, ⟨#[120]⟩, ⟨#[50]⟩, ⟨#[51]⟩, ⟨#[52]⟩, ⟨#[54]⟩] r).size = 1 := seven_size r r0 (r1 (by omega))
    rw [if_pos (by omega), Option.bind_some, e1, Option.bind_some]
    dsimp only
    rw [if_pos r0, if_pos (by simpa using r1 (by omega)), if_pos (by omega), w64s (by omega) (by omega)]
    exact ih k _ (n - 1) p1 s1 h1 (by omega) (by rw [ByteArray.size_append, z]; omega) (by omega)
theorem draw_cost {l : List Int} (hb : Byt l) {k : Nat} (hk : 100 ≤ k) : ∃ t, spec_DrawSignatureCost.f k l = some t ∧ t.size ≤ 30 := by
  obtain ⟨s, e0, h0⟩ := from_some hb (k := k) (by omega)
  obtain ⟨r, p1, s1, e1, h1, r0, r1⟩ := next_some hb h0 (n := 3) (by omega)
  unfold spec_DrawSignatureCost.f
  rw [e0, Option.bind_some]
  dsimp only
  rw [e1, Option.bind_some]
  dsimp only
  by_cases c : r = 0
  · obtain ⟨q, p2, s2, e2, h2, q0, q1⟩ := next_some hb h1 (n := 17) (by omega)
    rw [if_pos c, sigs2, Option.bind_some, e2, Option.bind_some]
    dsimp only
    rw [if_pos q0, if_pos (by rw [len_sigs]; exact q1 (by omega))]
    refine ⟨_, rfl, ?_⟩
    rcases cases17 q0 (q1 (by omega)) with rfl | rfl | rfl | rfl | rfl | rfl | rfl | rfl | rfl | rfl | rfl | rfl | rfl | rfl | rfl | rfl | rfl <;> decide
  · obtain ⟨q, p2, s2, e2, h2, q0, q1⟩ := next_some hb h1 (n := 8) (by omega)
    rw [if_neg c, e2, Option.bind_some]
    dsimp only
    have := q1 (by omega)
    exact cost_draw hb q.toNat k _ q p2 s2 h2 (by omega) (by show 0 + q.toNat ≤ 8; omega) (by omega)
theorem likeTexts_refl (l : List ByteArray) (hl : (l.length : Int) ≤ 1048576) (d : Nat) : ∀ (k i : Nat), i ≤ l.length → l.length - i = d → d < k → laws_likeTexts9.l0 k l l i = some true := by
  induction d with
  | zero =>
    intro k i hi hd hk
    obtain ⟨k, rfl⟩ := succ_of_lt hk
    simp only [laws_likeTexts9.l0]; rw [if_neg (by omega)]
  | succ d ih =>
    intro k i hi hd hk
    obtain ⟨k, rfl⟩ := succ_of_lt hk
    simp only [laws_likeTexts9.l0]
    rw [if_pos (by omega), if_pos (by omega), if_pos (by omega), if_pos trivial, w64s (by omega) (by omega)]
    exact ih k (i + 1) (by omega) (by omega) (by omega)

end Go.Proofs.Ytfkdcngpjppnbaa.LA
