/- Plain lemmas on friezes' texts and on reading them. -/
import Derived.Test.YtnblfcibgokccaaDoorAid
import Derived.Test.YtnblfcibgokccaaDoorPFx0
import Derived.Test.YtnblfcibgokccaaDoorLFABasic
import Derived.Test.YtnblfcibgokccaaDoorLFBLists
import Derived.Test.YtnblfcibgokccaaDoorLFZoaBytes
import Derived.Test.YtnblfcibgokccaaDoorPFx1
namespace Go.Proofs.YtnblfcibgokccaaDoor.LF
open Go.RowKit Go.Proofs.YtnblfcibgokccaaDoor.PF Go.Proofs.YtnblfcibgokccaaDoorW.PrintWords Go.Proofs.YtnblfcibgokccaaDoorW.PrintLast Go.Proofs.YtnblfcibgokccaaDoor.Aid
set_option linter.unusedVariables false
set_option linter.unusedSimpArgs false

/-- A valid frieze. -/
def Frz (h w : Int) (l : List Int) : Prop := (1 ≤ h ∧ h ≤ 6) ∧ (1 ≤ w ∧ w ≤ 24) ∧ (l.length : Int) = h * w ∧ ∀ x ∈ l, 0 ≤ x ∧ x ≤ 9
instance (h w : Int) (l : List Int) : Decidable (Frz h w l) := by unfold Frz; infer_instance
theorem frz_mul {h w : Int} (h1 : 1 ≤ h ∧ h ≤ 6) (h2 : 1 ≤ w ∧ w ≤ 24) : 0 ≤ h * w ∧ h * w ≤ 144 := by
  have : (h * w).natAbs ≤ 6 * 24 := by rw [Int.natAbs_mul]; exact Nat.mul_le_mul (by omega) (by omega)
  exact ⟨Int.mul_nonneg (by omega) (by omega), by omega⟩
theorem impl_IsFrieze_eq (h w : Int) (l : List Int) : impl_IsFrieze.f h w l = some (decide (Frz h w l)) := by
  unfold impl_IsFrieze.f
  simp only [within_eq, allWithin_eq, Option.bind_some]
  by_cases h1 : 1 ≤ h ∧ h ≤ 6
  · rw [if_pos (by simpa using h1)]
    by_cases h2 : 1 ≤ w ∧ w ≤ 24
    · have := frz_mul h1 h2
      rw [if_pos (by simpa using h2), w64s (by omega) (by omega)]
      by_cases h3 : (l.length : Int) = h * w
      · rw [if_pos h3]; congr 1; simp only [Frz, h1, h2, h3, true_and]
      · rw [if_neg h3]; simp [Frz, h3]
    · rw [if_neg (by simpa using h2)]; congr 1; symm; rw [decide_eq_false_iff_not]; exact fun x => h2 x.2.1
  · rw [if_neg (by simpa using h1)]; congr 1; symm; rw [decide_eq_false_iff_not]; exact fun x => h1 x.1
theorem spec_IsFrieze_eq (h w : Int) (l : List Int) (hl : (l.length : Int) ≤ 1048576) {k : Nat} (hk : l.length < k) : spec_IsFrieze.f k h w l = some (decide (Frz h w l)) := by
  unfold spec_IsFrieze.f
  simp only [l01In_eq, l01Within_eq l 144 0 9 hl hk, Option.bind_some]
  by_cases h1 : 1 ≤ h ∧ h ≤ 6
  · rw [if_pos (by simpa using h1)]
    by_cases h2 : 1 ≤ w ∧ w ≤ 24
    · have := frz_mul h1 h2
      rw [if_pos (by simpa using h2), w64s (by omega) (by omega)]
      by_cases h3 : (l.length : Int) = h * w
      · rw [if_pos h3]; congr 1; apply decide_eq_decide.2
        exact ⟨fun x => ⟨h1, h2, h3, x.1⟩, fun x => ⟨x.2.2.2, by omega⟩⟩
      · rw [if_neg h3]; simp [Frz, h3]
    · rw [if_neg (by simpa using h2)]; congr 1; symm; rw [decide_eq_false_iff_not]; exact fun x => h2 x.2.1
  · rw [if_neg (by simpa using h1)]; congr 1; symm; rw [decide_eq_false_iff_not]; exact fun x => h1 x.1
/-- A frieze's text, from a place in a row on. -/
def txF (w : Nat) : Nat → List Int → List UInt8
  | _, [] => []
  | i, x :: r => UInt8.ofNat (48 + x.toNat) :: (if i + 1 = w then 10 :: txF w 0 r else txF w (i + 1) r)
def u8s (l : List Int) : List UInt8 := l.map fun n => UInt8.ofNat n.toNat
theorem FriezeText_go (h : Int) (w : Nat) (l : List Int) (hw : 1 ≤ w ∧ w ≤ 24) (hl : l.length ≤ 144) (hx : ∀ x ∈ l, 0 ≤ x ∧ x ≤ 9) : ∀ (d i : Nat) (acc : List Int) (k : Nat), i + d = l.length → acc.length + 2 * d ≤ 1000 → d < k →
    spec_FriezeText.l0 k acc (i : Int) h (w : Int) l = some (ba (u8s acc ++ txF w (i % w) (l.drop i)), 0) := by
  intro d
  induction d with
  | zero =>
    intro i acc k hi ha hk
    obtain ⟨k, rfl⟩ : ∃ m, k = m + 1 := ⟨k - 1, by omega⟩
    rw [spec_FriezeText.l0, if_neg (by omega), List.drop_of_length_le (by omega)]
    unfold strOfNums ba u8s
    simp [txF]
  | succ d ih =>
    intro i acc k hi ha hk
    obtain ⟨k, rfl⟩ : ∃ m, k = m + 1 := ⟨k - 1, by omega⟩
    have hlt : i < l.length := by omega
    have hrd : rd l (i : Int) = l[i] := by rw [rd_nat, List.getD_eq_getElem?_getD, List.getElem?_eq_getElem hlt]; rfl
    have hb := hx _ (List.getElem_mem hlt)
    have hm : Int.tmod (i : Int) (w : Int) = ((i % w : Nat) : Int) := by rw [Int.tmod_eq_emod_of_nonneg (by omega)]; omega
    have hlt2 : i % w < w := Nat.mod_lt _ (by omega)
    rw [spec_FriezeText.l0, if_pos (by omega), if_pos (by omega), if_pos (by omega), hrd, w64s (x := 48 + l[i]) (by omega) (by omega)]
    simp only [Option.bind_some]
    rw [if_neg (by omega), hm, w64s (x := (w : Int) - 1) (by omega) (by omega), w64s (x := (i : Int) + 1) (by omega) (by omega), show ((i : Int) + 1) = ((i + 1 : Nat) : Int) by omega, List.drop_eq_getElem_cons hlt, show (48 + l[i]) % 256 = 48 + l[i] by omega]
    have hu : UInt8.ofNat (48 + l[i]).toNat = UInt8.ofNat (48 + l[i].toNat) := by rw [show (48 + l[i]).toNat = 48 + l[i].toNat by omega]
    by_cases he : i % w + 1 = w
    · rw [if_pos (by omega), if_pos (by simp; omega), ih (i + 1) _ k (by omega) (by simp; omega) (by omega)]
      have hz : (i + 1) % w = 0 := by
        have := Nat.div_add_mod i w
        rw [show i + 1 = w * (i / w) + w by omega]
        simp
      rw [hz, txF, if_pos he]
      simp [u8s, hu]
    · rw [if_neg (by omega), ih (i + 1) _ k (by omega) (by simp; omega) (by omega)]
      have hz : (i + 1) % w = i % w + 1 := by
        have := Nat.div_add_mod i w
        rw [show i + 1 = i % w + 1 + w * (i / w) by omega, Nat.add_mul_mod_self_left, Nat.mod_eq_of_lt (by omega)]
      rw [hz, txF, if_neg he]
      simp [u8s, hu]
theorem spec_FriezeText_eq (h w : Int) (l : List Int) (hl : (l.length : Int) ≤ 1048576) {k : Nat} (hk : 2000000 < k) : spec_FriezeText.f k h w l = if Frz h w l then some (ba (txF w.toNat 0 l), 0) else some (⟨#[]⟩, 1) := by
  unfold spec_FriezeText.f
  rw [spec_IsFrieze_eq h w l hl (by omega)]
  simp only [Option.bind_some, decide_eq_true_eq]
  by_cases hf : Frz h w l
  · rw [if_pos hf, if_pos hf]
    obtain ⟨f1, f2, f3, f4⟩ := hf
    have := frz_mul f1 f2
    obtain ⟨n, rfl⟩ := Int.eq_ofNat_of_zero_le (show 0 ≤ w by omega)
    have hg := FriezeText_go h n l (by omega) (by omega) f4 l.length 0 [] k (by omega) (by simp; omega) (by omega)
    rw [show ((0 : Nat) : Int) = 0 from rfl] at hg
    rw [hg]
    simp [u8s]
  · rw [if_neg hf, if_neg hf]
theorem txF_row (w : Nat) (r : List Int) : ∀ (p : List Int) (i : Nat), i + p.length = w → p ≠ [] → txF w i (p ++ r) = p.map (fun x => UInt8.ofNat (48 + x.toNat)) ++ 10 :: txF w 0 r
  | [], _, _, h => absurd rfl h
  | [x], i, hi, _ => by
    simp at hi
    simp [txF, hi]
  | x :: y :: p, i, hi, _ => by
    have ih := txF_row w r (y :: p) (i + 1) (by simp at hi ⊢; omega) (by simp)
    rw [List.cons_append, txF, if_neg (by simp at hi; omega), ih]
    rfl
end Go.Proofs.YtnblfcibgokccaaDoor.LF
