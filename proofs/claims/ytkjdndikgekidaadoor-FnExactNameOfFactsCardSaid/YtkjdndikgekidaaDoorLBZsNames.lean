/- Plain lemmas on the names of facts. -/
import Derived.Test.YtkjdndikgekidaaDoorAid
import Derived.Test.YtkjdndikgekidaaDoorPBx0
import Derived.Test.YtkjdndikgekidaaDoorLBABasic
import Derived.Test.YtkjdndikgekidaaDoorLBZpTexts
import Derived.Test.YtkjdndikgekidaaDoorPBx0
import Derived.Test.YtkjdndikgekidaaDoorPBx3
import Derived.Test.YtkjdndikgekidaaDoorPBx5
import Derived.Test.YtkjdndikgekidaaDoorPBx6
namespace Go.Proofs.YtkjdndikgekidaaDoor.LB
open Go.RowKit Go.Proofs.YtkjdndikgekidaaDoor.PB Go.Proofs.YtkjdndikgekidaaDoorW.PrintWords Go.Proofs.YtkjdndikgekidaaDoorW.PrintLast Go.Proofs.YtkjdndikgekidaaDoor.Aid
set_option linter.unusedVariables false
set_option linter.unusedSimpArgs false

theorem idx_str (l : List ByteArray) (a : ByteArray) (hl : (l.length : Int) ≤ 1000000) : ∀ (d i k : Nat), i + d = l.length → d < k →
    ∃ r, slices_Index_string_string.l0 k l a (l.length : Int) (i : Int) = some r ∧ (0 ≤ r ↔ ∃ b ∈ l.drop i, a.toList = b.toList) := by
  intro d
  induction d with
  | zero =>
    intro i k hi hk
    obtain ⟨k, rfl⟩ : ∃ m, k = m + 1 := ⟨k - 1, by omega⟩
    simp only [slices_Index_string_string.l0]
    rw [if_neg (by omega), List.drop_of_length_le (by omega)]
    exact ⟨-1, rfl, by simp⟩
  | succ d ih =>
    intro i k hi hk
    obtain ⟨k, rfl⟩ : ∃ m, k = m + 1 := ⟨k - 1, by omega⟩
    have hlt : i < l.length := by omega
    have hrd : rdOf ByteArray.empty l (i : Int) = l[i] := by unfold rdOf; rw [Int.toNat_natCast, List.getD_eq_getElem?_getD, List.getElem?_eq_getElem hlt]; rfl
    simp only [slices_Index_string_string.l0]
    rw [if_pos (by omega), if_pos (by omega), if_pos (by omega), hrd, w64s (by omega) (by omega), List.drop_eq_getElem_cons hlt]
    by_cases h : a.toList = l[i].toList
    · rw [if_pos h]
      exact ⟨i, rfl, ⟨fun _ => ⟨l[i], List.mem_cons_self, h⟩, fun _ => by omega⟩⟩
    · rw [if_neg h, show ((i : Int) + 1) = ((i + 1 : Nat) : Int) by omega]
      obtain ⟨r, h1, h2⟩ := ih (i + 1) k (by omega) (by omega)
      refine ⟨r, h1, h2.trans ⟨fun ⟨b, hb, e⟩ => ⟨b, List.mem_cons_of_mem _ hb, e⟩, fun ⟨b, hb, e⟩ => ?_⟩⟩
      rcases List.mem_cons.1 hb with rfl | hb
      · exact absurd e h
      · exact ⟨b, hb, e⟩
theorem contains_str (l : List ByteArray) (a : ByteArray) (hl : (l.length : Int) ≤ 1000000) {k : Nat} (hk : l.length < k) : ∃ t, slices_Contains_string_string.f k l a = some t ∧ (t = true ↔ ∃ b ∈ l, a.toList = b.toList) := by
  obtain ⟨r, h1, h2⟩ := idx_str l a hl l.length 0 k (by omega) hk
  unfold slices_Contains_string_string.f slices_Index_string_string.f
  rw [show (0 : Int) = ((0 : Nat) : Int) from rfl, h1]
  exact ⟨_, rfl, by simpa using h2⟩
theorem dec_ch : ∀ (d u : Nat), u ≤ d → (∀ c ∈ Lib.decDigits u, c.toNat < 60) ∧ Lib.decDigits u ≠ [] ∧ (10 ≤ u → 2 ≤ (Lib.decDigits u).length) := by
  intro d
  induction d with
  | zero =>
    intro u hu
    obtain rfl : u = 0 := by omega
    rw [Lib.decDigits_one (by omega)]
    exact ⟨by decide, by simp, by omega⟩
  | succ d ih =>
    intro u hu
    by_cases h : u < 10
    · rw [Lib.decDigits_one h]
      refine ⟨fun c hc => ?_, by simp, by omega⟩
      rw [List.mem_singleton.1 hc, UInt8.toNat_ofNat']; omega
    · obtain ⟨i1, i2, _⟩ := ih (u / 10) (by omega)
      rw [Lib.decDigits, dif_neg h]
      refine ⟨fun c hc => ?_, by simp, fun _ => ?_⟩
      · rcases List.mem_append.1 hc with hc | hc
        · exact i1 c hc
        · rw [List.mem_singleton.1 hc, UInt8.toNat_ofNat']; omega
      · have : 0 < (Lib.decDigits (u / 10)).length := List.length_pos_iff.2 i2
        simp; omega
theorem itoa_ch (n : Int) : ∀ c ∈ Lib.itoa n, c.toNat < 60 := by
  intro c hc
  unfold Lib.itoa at hc
  by_cases h : n < 0
  · rw [if_pos h] at hc
    rcases List.mem_cons.1 hc with rfl | hc
    · decide
    · exact (dec_ch _ _ (Nat.le_refl _)).1 c hc
  · rw [if_neg h] at hc
    exact (dec_ch _ _ (Nat.le_refl _)).1 c hc
theorem itoa_one (n : Int) (c : UInt8) (e : Lib.itoa n = [c]) : c.toNat = 48 + n.toNat ∧ 0 ≤ n ∧ n < 10 := by
  unfold Lib.itoa at e
  by_cases h : n < 0
  · rw [if_pos h] at e
    exact absurd (List.cons.inj e).2 (dec_ch _ _ (Nat.le_refl _)).2.1
  · rw [if_neg h] at e
    by_cases h2 : n.toNat < 10
    · rw [Lib.decDigits_one h2] at e
      have := (List.cons.inj e).1
      rw [← this, UInt8.toNat_ofNat']
      exact ⟨by omega, by omega, by omega⟩
    · have := (dec_ch _ _ (Nat.le_refl n.toNat)).2.2 (by omega)
      rw [e] at this; simp at this
theorem itoa_dig (n : Int) (h0 : 0 ≤ n) (h1 : n < 10) : Lib.itoa n = [UInt8.ofNat (48 + n.toNat)] := by
  unfold Lib.itoa
  rw [if_neg (by omega), Lib.decDigits_one (by omega)]
theorem itoa_let (n : Int) (c : UInt8) (hc : 60 ≤ c.toNat) (l : List UInt8) (hl : c ∈ l) : Lib.itoa n ≠ l := by
  intro e; have := itoa_ch n c (by rw [e]; exact hl); omega
/-- The names. -/
def nmL : List ByteArray := [(⟨#[112, 49]⟩ : ByteArray), (⟨#[112, 50]⟩ : ByteArray), (⟨#[112, 109]⟩ : ByteArray), (⟨#[112, 103]⟩ : ByteArray), (⟨#[99, 109]⟩ : ByteArray), (⟨#[112, 109, 109]⟩ : ByteArray), (⟨#[112, 109, 103]⟩ : ByteArray), (⟨#[112, 103, 103]⟩ : ByteArray), (⟨#[99, 109, 109]⟩ : ByteArray), (⟨#[112, 52]⟩ : ByteArray), (⟨#[112, 52, 109]⟩ : ByteArray), (⟨#[112, 52, 103]⟩ : ByteArray), (⟨#[112, 51]⟩ : ByteArray), (⟨#[112, 51, 109, 49]⟩ : ByteArray), (⟨#[112, 51, 49, 109]⟩ : ByteArray), (⟨#[112, 54]⟩ : ByteArray), (⟨#[112, 54, 109]⟩ : ByteArray)]
def nmB : List (List UInt8) := [[112, 49], [112, 50], [112, 109], [112, 103], [99, 109], [112, 109, 109], [112, 109, 103], [112, 103, 103], [99, 109, 109], [112, 52], [112, 52, 109], [112, 52, 103], [112, 51], [112, 51, 109, 49], [112, 51, 49, 109], [112, 54], [112, 54, 109]]
theorem nm_list : nmL.map (·.toList) = nmB := by
  unfold nmL nmB
  simp only [List.map_cons, List.map_nil, ByteArray.toList_mk]
theorem nm_mem (l : List UInt8) : (∃ b ∈ nmL, l = b.toList) ↔ l ∈ nmB := by
  rw [← nm_list, List.mem_map]
  exact ⟨fun ⟨b, h, e⟩ => ⟨b, h, e.symm⟩, fun ⟨b, h, e⟩ => ⟨b, h, e.symm⟩⟩
theorem p_name (n : Int) : (112 :: Lib.itoa n) ∈ nmB ↔ (n = 1 ∨ n = 2 ∨ n = 3 ∨ n = 4 ∨ n = 6) := by
  constructor
  · intro h
    unfold nmB at h
    simp only [List.mem_cons, List.not_mem_nil, or_false, List.cons.injEq] at h
    have L := itoa_let n
    have q : ∀ c : UInt8, Lib.itoa n = [c] → (n = c.toNat - 48) := fun c e => by have := itoa_one n c e; omega
    rcases h with h | h | h | h | h | h | h | h | h | h | h | h | h | h | h | h | h
    · have := q _ h.2; left; exact this
    · have := q _ h.2; right; left; exact this
    · exact absurd h.2 (L 109 (by decide) _ (by decide))
    · exact absurd h.2 (L 103 (by decide) _ (by decide))
    · exact absurd h.1 (by decide)
    · exact absurd h.2 (L 109 (by decide) _ (by decide))
    · exact absurd h.2 (L 109 (by decide) _ (by decide))
    · exact absurd h.2 (L 103 (by decide) _ (by decide))
    · exact absurd h.1 (by decide)
    · have := q _ h.2; right; right; right; left; exact this
    · exact absurd h.2 (L 109 (by decide) _ (by decide))
    · exact absurd h.2 (L 103 (by decide) _ (by decide))
    · have := q _ h.2; right; right; left; exact this
    · exact absurd h.2 (L 109 (by decide) _ (by decide))
    · exact absurd h.2 (L 109 (by decide) _ (by decide))
    · have := q _ h.2; right; right; right; right; exact this
    · exact absurd h.2 (L 109 (by decide) _ (by decide))
  · rintro (rfl | rfl | rfl | rfl | rfl) <;> rw [itoa_dig _ (by decide) (by decide)] <;> decide
theorem name_plain (r f c : Int) (al : Bool) (h0 : -9223372036854775808 ≤ r) (h1 : r ≤ 9223372036854775807) {k : Nat} (hk : 50 < k) : ∃ s, spec_l12Plain.f k r 0 f c al = some s ∧ impl_nameOfFacts.f k r 0 f c al = some s := by
  obtain ⟨k, rfl⟩ : ∃ m, k = m + 1 := ⟨k - 1, by omega⟩
  unfold spec_l12Plain.f impl_nameOfFacts.f
  rw [if_pos rfl, text_eq r h0 h1]
  simp only [Option.bind_some, spec_l12Plain.j0]
  have hlen : (txt r).size ≤ 9223372036854775000 := by
    have hl : ∀ (d u : Nat), u < 10 ^ (d + 1) → (Lib.decDigits u).length ≤ d + 1 := by
      intro d
      induction d with
      | zero => intro u hu; rw [Lib.decDigits_one (by simpa using hu)]; simp
      | succ d ih =>
        intro u hu
        by_cases h : u < 10
        · rw [Lib.decDigits_one h]; simp
        · have := ih (u / 10) (by rw [Nat.pow_succ] at hu; omega)
          rw [Lib.decDigits, dif_neg h]; simp; omega
    unfold txt Lib.itoa
    have p19 : (10 : Nat) ^ (18 + 1) = 10000000000000000000 := by decide
    by_cases h : r < 0
    · have := hl 18 r.natAbs (by omega)
      rw [if_pos h]; simp [ByteArray.size]; omega
    · have := hl 18 r.toNat (by omega)
      rw [if_neg h]; simp [ByteArray.size]; omega
  rw [if_pos (show 1 + (txt r).size ≤ 9223372036854775807 by omega)]
  by_cases hz : f = 0 ∧ c = 0 ∧ al = false
  · obtain ⟨rfl, rfl, rfl⟩ := hz
    rw [if_pos rfl, if_pos rfl, if_neg (show ¬ (false = true) by decide), if_neg (show ¬ ((!((0 : Int) == 0) || (!((0 : Int) == 0) || (!((0 : Int) == 0) || false))) = true) by decide)]
    unfold impl_GroupNames.f
    simp only [Option.bind_some]
    rw [show ([(⟨#[112, 49]⟩ : ByteArray), (⟨#[112, 50]⟩ : ByteArray), (⟨#[112, 109]⟩ : ByteArray), (⟨#[112, 103]⟩ : ByteArray), (⟨#[99, 109]⟩ : ByteArray), (⟨#[112, 109, 109]⟩ : ByteArray), (⟨#[112, 109, 103]⟩ : ByteArray), (⟨#[112, 103, 103]⟩ : ByteArray), (⟨#[99, 109, 109]⟩ : ByteArray), (⟨#[112, 52]⟩ : ByteArray), (⟨#[112, 52, 109]⟩ : ByteArray), (⟨#[112, 52, 103]⟩ : ByteArray), (⟨#[112, 51]⟩ : ByteArray), (⟨#[112, 51, 109, 49]⟩ : ByteArray), (⟨#[112, 51, 49, 109]⟩ : ByteArray), (⟨#[112, 54]⟩ : ByteArray), (⟨#[112, 54, 109]⟩ : ByteArray)] : List ByteArray) = nmL from rfl]
    have et : (⟨#[112]⟩ : ByteArray) ++ txt r = ⟨(112 :: Lib.itoa r).toArray⟩ := by unfold txt; rw [show (⟨#[112]⟩ : ByteArray) = ⟨[112].toArray⟩ from rfl, ba_app]; rfl
    rw [et]
    obtain ⟨t, t1, t2⟩ := contains_str nmL ⟨(112 :: Lib.itoa r).toArray⟩ (by decide) (k := k + 1) (by show 17 < k + 1; omega)
    rw [t1]
    rw [nm_mem, ByteArray.toList_mk, p_name] at t2
    simp only [Option.bind_some]
    by_cases hr : r = 1 ∨ r = 2 ∨ r = 3 ∨ r = 4 ∨ r = 6
    · rw [if_pos (t2.2 hr)]
      refine ⟨_, ?_, rfl⟩
      rcases hr with rfl | rfl | rfl | rfl | rfl <;> rw [itoa_dig _ (by decide) (by decide)] <;> rfl
    · rw [if_neg (fun e => hr (t2.1 e)), if_neg (by omega), if_neg (by omega), if_neg (by omega), if_neg (by omega), if_neg (by omega)]
      exact ⟨_, rfl, rfl⟩
  · refine ⟨⟨#[]⟩, ?_, ?_⟩
    · by_cases a1 : f = 0 <;> by_cases a2 : c = 0 <;> cases al <;> simp_all
    · rw [if_pos]
      by_cases a1 : f = 0 <;> by_cases a2 : c = 0 <;> cases al <;> simp_all
theorem name_mirrors (r m f c : Int) (al : Bool) (hm : m ≠ 0) {k : Nat} (hk : 50 < k) : ∃ s, spec_l12Name.f k r m f c al = some s ∧ impl_nameWithMirrors.f k r m f c al = some s := by
  obtain ⟨k, rfl⟩ : ∃ j, k = j + 1 + 1 + 1 + 1 + 1 + 1 + 1 + 1 + 1 + 1 + 1 := ⟨k - 11, by omega⟩
  unfold spec_l12Name.f impl_nameWithMirrors.f
  rw [if_neg hm]
  by_cases r1 : r = 1
  · subst r1
    simp only [show (1 : Int) ≤ 2 by decide, if_true, spec_l12Small.f, spec_l12Small.j0, spec_l12Small.j1, spec_l12Small.j2, spec_l12Small.j3, impl_nameWithMirrors.j0, impl_nameWithMirrors.j1, impl_nameWithMirrors.j2, impl_nameWithMirrors.j3, impl_nameWithMirrors.j4, impl_nameWithMirrors.j5, impl_nameWithMirrors.j6, impl_nameWithMirrors.j7, impl_nameWithMirrors.j8, impl_nameWithMirrors.j9]
    by_cases m1 : m = 1 <;> by_cases f0 : f = 0 <;> by_cases f1 : f = 1 <;> by_cases c0 : c = 0 <;> by_cases c1 : c = 1 <;> simp_all
  by_cases r2 : r = 2
  · subst r2
    simp only [show (2 : Int) ≤ 2 by decide, if_true, spec_l12Small.f, spec_l12Small.j0, spec_l12Small.j1, spec_l12Small.j2, spec_l12Small.j3, impl_nameWithMirrors.j0, impl_nameWithMirrors.j1, impl_nameWithMirrors.j2, impl_nameWithMirrors.j3, impl_nameWithMirrors.j4, impl_nameWithMirrors.j5, impl_nameWithMirrors.j6, impl_nameWithMirrors.j7, impl_nameWithMirrors.j8, impl_nameWithMirrors.j9, l01In_eq, within_eq]
    by_cases m2 : m = 2
    · by_cases c0 : c = 0
      · by_cases hf : 0 ≤ f ∧ f ≤ 2
        · rcases (by omega : f = 0 ∨ f = 1 ∨ f = 2) with rfl | rfl | rfl <;> simp_all
        · have f2 : ¬ f = 2 := by omega
          subst m2 c0
          simp [hf, f2]
      · by_cases f2 : f = 2 <;> by_cases c2 : c = 2 <;> simp_all
    · by_cases f2 : f = 2 <;> by_cases c2 : c = 2 <;> simp_all
  by_cases r6 : r ≤ 2
  · rw [if_pos r6]
    have q4 : ¬ r = 4 := by omega
    have q3 : ¬ r = 3 := by omega
    have q6 : ¬ r = 6 := by omega
    refine ⟨⟨#[]⟩, ?_, ?_⟩
    · simp [spec_l12Small.f, spec_l12Small.j0, spec_l12Small.j1, spec_l12Small.j2, spec_l12Small.j3, r1, r2]
    · simp [impl_nameWithMirrors.j0, impl_nameWithMirrors.j1, impl_nameWithMirrors.j2, impl_nameWithMirrors.j3, impl_nameWithMirrors.j4, impl_nameWithMirrors.j5, impl_nameWithMirrors.j6, impl_nameWithMirrors.j7, impl_nameWithMirrors.j8, impl_nameWithMirrors.j9, r1, r2, q3, q4, q6]
  rw [if_neg r6]
  by_cases r4 : r = 4
  · subst r4
    simp only [spec_l12Name.j0, spec_l12Name.j1, spec_l12Name.j2, spec_l12Name.j3, impl_nameWithMirrors.j0, impl_nameWithMirrors.j1, impl_nameWithMirrors.j2, impl_nameWithMirrors.j3, impl_nameWithMirrors.j4, impl_nameWithMirrors.j5, impl_nameWithMirrors.j6, impl_nameWithMirrors.j7, impl_nameWithMirrors.j8, impl_nameWithMirrors.j9]
    by_cases m4 : m = 4 <;> by_cases c2 : c = 2 <;> by_cases f4 : f = 4 <;> by_cases f2 : f = 2 <;> by_cases c4 : c = 4 <;> simp_all
  simp only [spec_l12Name.j0, spec_l12Name.j1, spec_l12Name.j2, spec_l12Name.j3, impl_nameWithMirrors.j0, impl_nameWithMirrors.j1, impl_nameWithMirrors.j2, impl_nameWithMirrors.j3, impl_nameWithMirrors.j4, impl_nameWithMirrors.j5, impl_nameWithMirrors.j6, impl_nameWithMirrors.j7, impl_nameWithMirrors.j8, impl_nameWithMirrors.j9, r1, r2, r4, if_false]
  by_cases r3 : r = 3
  · subst r3
    by_cases m3 : m = 3 <;> by_cases f3 : f = 3 <;> by_cases c3 : c = 3 <;> cases al <;> simp_all
  · by_cases r6 : r = 6
    · subst r6
      by_cases m3 : m = 6 <;> by_cases f3 : f = 6 <;> by_cases c3 : c = 6 <;> cases al <;> simp_all
    · by_cases m3 : m = r <;> by_cases f3 : f = r <;> by_cases c3 : c = r <;> cases al <;> simp_all
theorem NameOfFacts_both (r m f c : Int) (al : Bool) (h0 : -9223372036854775808 ≤ r) (h1 : r ≤ 9223372036854775807) {k : Nat} (hk : 50 < k) : ∃ s, spec_NameOfFacts.f k r m f c al = some s ∧ impl_NameOfFacts.f k r m f c al = some s := by
  have hb : ∃ s, spec_l12Name.f k r m f c al = some s ∧ impl_nameOfFacts.f k r m f c al = some s := by
    by_cases hm : m = 0
    · subst hm
      obtain ⟨s, s1, s2⟩ := name_plain r f c al h0 h1 hk
      refine ⟨s, ?_, s2⟩
      unfold spec_l12Name.f
      rw [if_pos rfl, s1]; rfl
    · obtain ⟨s, s1, s2⟩ := name_mirrors r m f c al hm hk
      refine ⟨s, s1, ?_⟩
      unfold impl_nameOfFacts.f
      rw [if_neg hm, s2]; rfl
  obtain ⟨s, s1, s2⟩ := hb
  unfold spec_NameOfFacts.f impl_NameOfFacts.f
  rw [s1, s2]
  simp only [Option.bind_some]
  by_cases h : s.toList = []
  · rw [if_pos h]; exact ⟨_, rfl, rfl⟩
  · rw [if_neg h]; exact ⟨_, rfl, rfl⟩

end Go.Proofs.YtkjdndikgekidaaDoor.LB
