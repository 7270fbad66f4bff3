/- Plain lemmas on friezes' texts and on reading them. -/
import Derived.Test.YtnblfcibgokccaaDoorAid
import Derived.Test.YtnblfcibgokccaaDoorPGx0
import Derived.Test.YtnblfcibgokccaaDoorLGABasic
import Derived.Test.YtnblfcibgokccaaDoorLGBLists
import Derived.Test.YtnblfcibgokccaaDoorLGZoaBytes
import Derived.Test.YtnblfcibgokccaaDoorLGZtRead
import Derived.Test.YtnblfcibgokccaaDoorLGZvReadpattern
import Derived.Test.YtnblfcibgokccaaDoorPGx0
import Derived.Test.YtnblfcibgokccaaDoorPGx1
import Derived.Test.YtnblfcibgokccaaDoorPGx7
import Derived.Test.YtnblfcibgokccaaDoorPGx8
namespace Go.Proofs.YtnblfcibgokccaaDoor.LG
open Go.RowKit Go.Proofs.YtnblfcibgokccaaDoor.PG Go.Proofs.YtnblfcibgokccaaDoorW.PrintWords Go.Proofs.YtnblfcibgokccaaDoorW.PrintLast Go.Proofs.YtnblfcibgokccaaDoor.Aid
set_option linter.unusedVariables false
set_option linter.unusedSimpArgs false

/-- A valid frieze. -/
def Frz (h w : Int) (l : List Int) : Prop := (1 ≤ h ∧ h ≤ 6) ∧ (1 ≤ w ∧ w ≤ 24) ∧ (l.length : Int) = h * w ∧ ∀ x ∈ l, 0 ≤ x ∧ x ≤ 9
instance (h w : Int) (l : List Int) : Decidable (Frz h w l) := by unfold Frz; infer_instance
theorem frz_mul {h w : Int} (h1 : 1 ≤ h ∧ h ≤ 6) (h2 : 1 ≤ w ∧ w ≤ 24) : 0 ≤ h * w ∧ h * w ≤ 144 := by
  have : (h * w).natAbs ≤ 6 * 24 := by rw [Int.natAbs_mul]; exact Nat.mul_le_mul (by omega) (by omega)
  exact ⟨Int.mul_nonneg (by omega) (by omega), by omega⟩
theorem impl_IsFrieze_eq (h w : Int) (l : List Int) : impl_IsFrieze.f h w l = some (decide (Frz h w l)) := by
  unfold impl_IsFrieze.f
  simp only [within_eq, allWithin_eq, Option.bind_some]
  by_cases h1 : 1 ≤ h ∧ h ≤ 6
  · rw [if_pos (by simpa using h1)]
    by_cases h2 : 1 ≤ w ∧ w ≤ 24
    · have := frz_mul h1 h2
      rw [if_pos (by simpa using h2), w64s (by omega) (by omega)]
      by_cases h3 : (l.length : Int) = h * w
      · rw [if_pos h3]; congr 1; simp only [Frz, h1, h2, h3, true_and]
      · rw [if_neg h3]; simp [Frz, h3]
    · rw [if_neg (by simpa using h2)]; congr 1; symm; rw [decide_eq_false_iff_not]; exact fun x => h2 x.2.1
  · rw [if_neg (by simpa using h1)]; congr 1; symm; rw [decide_eq_false_iff_not]; exact fun x => h1 x.1
theorem spec_IsFrieze_eq (h w : Int) (l : List Int) (hl : (l.length : Int) ≤ 1048576) {k : Nat} (hk : l.length < k) : spec_IsFrieze.f k h w l = some (decide (Frz h w l)) := by
  unfold spec_IsFrieze.f
  simp only [l01In_eq, l01Within_eq l 144 0 9 hl hk, Option.bind_some]
  by_cases h1 : 1 ≤ h ∧ h ≤ 6
  · rw [if_pos (by simpa using h1)]
    by_cases h2 : 1 ≤ w ∧ w ≤ 24
    · have := frz_mul h1 h2
      rw [if_pos (by simpa using h2), w64s (by omega) (by omega)]
      by_cases h3 : (l.length : Int) = h * w
      · rw [if_pos h3]; congr 1; apply decide_eq_decide.2
        exact ⟨fun x => ⟨h1, h2, h3, x.1⟩, fun x => ⟨x.2.2.2, by omega⟩⟩
      · rw [if_neg h3]; simp [Frz, h3]
    · rw [if_neg (by simpa using h2)]; congr 1; symm; rw [decide_eq_false_iff_not]; exact fun x => h2 x.2.1
  · rw [if_neg (by simpa using h1)]; congr 1; symm; rw [decide_eq_false_iff_not]; exact fun x => h1 x.1
/-- A frieze's text, from a place in a row on. -/
def txF (w : Nat) : Nat → List Int → List UInt8
  | _, [] => []
  | i, x :: r => UInt8.ofNat (48 + x.toNat) :: (if i + 1 = w then 10 :: txF w 0 r else txF w (i + 1) r)
def u8s (l : List Int) : List UInt8 := l.map fun n => UInt8.ofNat n.toNat
theorem FriezeText_go (h : Int) (w : Nat) (l : List Int) (hw : 1 ≤ w ∧ w ≤ 24) (hl : l.length ≤ 144) (hx : ∀ x ∈ l, 0 ≤ x ∧ x ≤ 9) : ∀ (d i : Nat) (acc : List Int) (k : Nat), i + d = l.length → acc.length + 2 * d ≤ 1000 → d < k →
    spec_FriezeText.l0 k acc (i : Int) h (w : Int) l = some (ba (u8s acc ++ txF w (i % w) (l.drop i)), 0) := by
  intro d
  induction d with
  | zero =>
    intro i acc k hi ha hk
    obtain ⟨k, rfl⟩ : ∃ m, k = m + 1 := ⟨k - 1, by omega⟩
    rw [spec_FriezeText.l0, if_neg (by omega), List.drop_of_length_le (by omega)]
    unfold strOfNums ba u8s
    simp [txF]
  | succ d ih =>
    intro i acc k hi ha hk
    obtain ⟨k, rfl⟩ : ∃ m, k = m + 1 := ⟨k - 1, by omega⟩
    have hlt : i < l.length := by omega
    have hrd : rd l (i : Int) = l[i] := by rw [rd_nat, List.getD_eq_getElem?_getD, List.getElem?_eq_getElem hlt]; rfl
    have hb := hx _ (List.getElem_mem hlt)
    have hm : Int.tmod (i : Int) (w : Int) = ((i % w : Nat) : Int) := by rw [Int.tmod_eq_emod_of_nonneg (by omega)]; omega
    have hlt2 : i % w < w := Nat.mod_lt _ (by omega)
    rw [spec_FriezeText.l0, if_pos (by omega), if_pos (by omega), if_pos (by omega), hrd, w64s (x := 48 + l[i]) (by omega) (by omega)]
    simp only [Option.bind_some]
    rw [if_neg (by omega), hm, w64s (x := (w : Int) - 1) (by omega) (by omega), w64s (x := (i : Int) + 1) (by omega) (by omega), show ((i : Int) + 1) = ((i + 1 : Nat) : Int) by omega, List.drop_eq_getElem_cons hlt, show (48 + l[i]) % 256 = 48 + l[i] by omega]
    have hu : UInt8.ofNat (48 + l[i]).toNat = UInt8.ofNat (48 + l[i].toNat) := by rw [show (48 + l[i]).toNat = 48 + l[i].toNat by omega]
    by_cases he : i % w + 1 = w
    · rw [if_pos (by omega), if_pos (by simp; omega), ih (i + 1) _ k (by omega) (by simp; omega) (by omega)]
      have hz : (i + 1) % w = 0 := by
        have := Nat.div_add_mod i w
        rw [show i + 1 = w * (i / w) + w by omega]
        simp
      rw [hz, txF, if_pos he]
      simp [u8s, hu]
    · rw [if_neg (by omega), ih (i + 1) _ k (by omega) (by simp; omega) (by omega)]
      have hz : (i + 1) % w = i % w + 1 := by
        have := Nat.div_add_mod i w
        rw [show i + 1 = i % w + 1 + w * (i / w) by omega, Nat.add_mul_mod_self_left, Nat.mod_eq_of_lt (by omega)]
      rw [hz, txF, if_neg he]
      simp [u8s, hu]
theorem spec_FriezeText_eq (h w : Int) (l : List Int) (hl : (l.length : Int) ≤ 1048576) {k : Nat} (hk : 2000000 < k) : spec_FriezeText.f k h w l = if Frz h w l then some (ba (txF w.toNat 0 l), 0) else some (⟨#[]⟩, 1) := by
  unfold spec_FriezeText.f
  rw [spec_IsFrieze_eq h w l hl (by omega)]
  simp only [Option.bind_some, decide_eq_true_eq]
  by_cases hf : Frz h w l
  · rw [if_pos hf, if_pos hf]
    obtain ⟨f1, f2, f3, f4⟩ := hf
    have := frz_mul f1 f2
    obtain ⟨n, rfl⟩ := Int.eq_ofNat_of_zero_le (show 0 ≤ w by omega)
    have hg := FriezeText_go h n l (by omega) (by omega) f4 l.length 0 [] k (by omega) (by simp; omega) (by omega)
    rw [show ((0 : Nat) : Int) = 0 from rfl] at hg
    rw [hg]
    simp [u8s]
  · rw [if_neg hf, if_neg hf]
theorem txF_row (w : Nat) (r : List Int) : ∀ (p : List Int) (i : Nat), i + p.length = w → p ≠ [] → txF w i (p ++ r) = p.map (fun x => UInt8.ofNat (48 + x.toNat)) ++ 10 :: txF w 0 r
  | [], _, _, h => absurd rfl h
  | [x], i, hi, _ => by
    simp at hi
    simp [txF, hi]
  | x :: y :: p, i, hi, _ => by
    have ih := txF_row w r (y :: p) (i + 1) (by simp at hi ⊢; omega) (by simp)
    rw [List.cons_append, txF, if_neg (by simp at hi; omega), ih]
    rfl
theorem txF_rows (w : Nat) (hw : 1 ≤ w) : ∀ (h : Nat) (l : List Int), l.length = h * w → (∀ x ∈ l, 0 ≤ x ∧ x ≤ 9) →
    (∀ p ∈ (splitL 10 (txF w 0 l)).dropLast, p.length = w) ∧ (1 ≤ h → ∃ b, txF w 0 l = b ++ [10])
  | 0, l, hl, _ => by
    have : l = [] := List.eq_nil_of_length_eq_zero (by omega)
    subst this
    exact ⟨by simp [txF, splitL], by omega⟩
  | h + 1, l, hl, hx => by
    rw [Nat.add_mul, Nat.one_mul] at hl
    have hd : l = l.take w ++ l.drop w := (List.take_append_drop w l).symm
    have htl : (l.take w).length = w := by rw [List.length_take]; omega
    have hne : l.take w ≠ [] := fun e => by rw [e] at htl; simp at htl; omega
    have ih := txF_rows w hw h (l.drop w) (by rw [List.length_drop]; omega) (fun x hx' => hx x (List.mem_of_mem_drop hx'))
    have e : txF w 0 l = (l.take w).map (fun x => UInt8.ofNat (48 + x.toNat)) ++ 10 :: txF w 0 (l.drop w) := by
      conv => lhs; rw [hd]
      exact txF_row w (l.drop w) (l.take w) 0 (by omega) hne
    have h10 : (10 : UInt8) ∉ (l.take w).map (fun x => UInt8.ofNat (48 + x.toNat)) := fun hm => by
      obtain ⟨x, h1, h2⟩ := List.mem_map.1 hm
      have h3 := hx x (List.mem_of_mem_take h1)
      have := congrArg UInt8.toNat h2
      rw [UInt8.toNat_ofNat'] at this
      have t10 : (10 : UInt8).toNat = 10 := rfl
      omega
    refine ⟨fun p hp => ?_, fun _ => ?_⟩
    · rw [e, splitL_head 10 _ _ h10] at hp
      have hne2 := splitL_ne 10 (txF w 0 (l.drop w))
      rw [List.dropLast_cons_of_ne_nil hne2] at hp
      rcases List.mem_cons.1 hp with rfl | hp
      · rw [List.length_map]; exact htl
      · exact ih.1 p hp
    · rw [e]
      by_cases hz : h = 0
      · subst hz
        have : l.drop w = [] := List.eq_nil_of_length_eq_zero (by rw [List.length_drop]; omega)
        rw [this]
        exact ⟨_, rfl⟩
      · obtain ⟨b, hb⟩ := ih.2 (by omega)
        rw [hb]
        exact ⟨(l.take w).map (fun x => UInt8.ofNat (48 + x.toNat)) ++ 10 :: b, by simp⟩
theorem txF_lines (w : Nat) (hw : 1 ≤ w) : ∀ (ls : List (List UInt8)), (∀ p ∈ ls, p.length = w ∧ ∀ c ∈ p, dig c) → txF w 0 (cols ls.flatten) = (ls.map (· ++ [10])).flatten
  | [], _ => rfl
  | p :: ls, h => by
    obtain ⟨h1, h2⟩ := h p (by simp)
    have ih := txF_lines w hw ls (fun q hq => h q (by simp [hq]))
    have e : cols (p :: ls).flatten = cols p ++ cols ls.flatten := by simp [cols]
    have hne : cols p ≠ [] := fun e => by have := congrArg List.length e; simp [cols] at this; rw [this] at h1; simp at h1; omega
    rw [e, txF_row w _ (cols p) 0 (by simp [cols, h1]) hne, ih]
    have e2 : (cols p).map (fun x => UInt8.ofNat (48 + x.toNat)) = p := by
      unfold cols
      rw [List.map_map]
      conv => rhs; rw [← List.map_id p]
      apply List.map_congr_left
      intro c hc
      have := h2 c hc
      unfold dig at this
      apply UInt8.toNat_inj.1
      show (UInt8.ofNat (48 + ((c.toNat : Int) - 48).toNat)).toNat = c.toNat
      rw [UInt8.toNat_ofNat']
      have := UInt8.toNat_lt c
      omega
    rw [e2]; simp
theorem rdL_at (L : List (List Int)) (i : Nat) (h : i < L.length) : rd_L2 L (i : Int) = L[i] := by
  unfold rd_L2; rw [Int.toNat_natCast, List.getD_eq_getElem?_getD, List.getElem?_eq_getElem h]; rfl
theorem flat_drop (L : List (List Int)) (i : Nat) (h : i < L.length) : (L.drop i).flatten = L[i] ++ (L.drop (i + 1)).flatten := by rw [List.drop_eq_getElem_cons h, List.flatten_cons]
theorem concat_l1 (L : List (List Int)) (hl : L.length ≤ 2000000) : ∀ (d i : Nat) (acc : List Int) (k : Nat), i + d = L.length → acc.length + (L.drop i).flatten.length ≤ 2000000 → d < k →
    slices_Concat_int64_int64.l1 k acc L (L.length : Int) (i : Int) = some (acc ++ (L.drop i).flatten) := by
  intro d
  induction d with
  | zero =>
    intro i acc k hi ha hk
    obtain ⟨k, rfl⟩ : ∃ m, k = m + 1 := ⟨k - 1, by omega⟩
    rw [slices_Concat_int64_int64.l1, if_neg (by omega), List.drop_of_length_le (by omega)]
    simp
  | succ d ih =>
    intro i acc k hi ha hk
    obtain ⟨k, rfl⟩ : ∃ m, k = m + 1 := ⟨k - 1, by omega⟩
    have hlt : i < L.length := by omega
    have hf := flat_drop L i hlt
    have hfl := congrArg List.length hf
    rw [List.length_append] at hfl
    rw [slices_Concat_int64_int64.l1, if_pos (by omega), if_pos (by omega), if_pos (by omega), rdL_at L i hlt, if_pos (by omega), w64s (by omega) (by omega), show ((i : Int) + 1) = ((i + 1 : Nat) : Int) by omega, ih (i + 1) _ k (by omega) (by rw [List.length_append]; omega) (by omega), hf]
    simp
theorem concat_l0 (L : List (List Int)) (hl : L.length ≤ 2000000) (hf : L.flatten.length ≤ 2000000) : ∀ (d i n : Nat) (k : Nat), i + d = L.length → n + (L.drop i).flatten.length = L.flatten.length → d + L.length + 2 < k →
    slices_Concat_int64_int64.l0 k L (n : Int) L (L.length : Int) (i : Int) = some L.flatten := by
  intro d
  induction d with
  | zero =>
    intro i n k hi hn hk
    obtain ⟨k, rfl⟩ : ∃ m, k = m + 1 := ⟨k - 1, by omega⟩
    rw [slices_Concat_int64_int64.l0, if_neg (by omega)]
    unfold slices_Grow_int64_int64.f
    rw [if_pos ⟨rfl, by omega, by omega⟩]
    simp only [Option.bind_some]
    have := concat_l1 L hl L.length 0 [] k (by omega) (by simpa using hf) (by omega)
    rw [show ((0 : Nat) : Int) = 0 from rfl] at this
    rw [this]; simp
  | succ d ih =>
    intro i n k hi hn hk
    obtain ⟨k, rfl⟩ : ∃ m, k = m + 1 := ⟨k - 1, by omega⟩
    have hlt : i < L.length := by omega
    have hfl := congrArg List.length (flat_drop L i hlt)
    rw [List.length_append] at hfl
    rw [slices_Concat_int64_int64.l0, if_pos (by omega), if_pos (by omega), if_pos (by omega), rdL_at L i hlt, w64s (x := (n : Int) + (L[i].length : Int)) (by omega) (by omega), if_neg (by omega), w64s (by omega) (by omega), show ((i : Int) + 1) = ((i + 1 : Nat) : Int) by omega, show (n : Int) + (L[i].length : Int) = ((n + L[i].length : Nat) : Int) by omega]
    exact ih (i + 1) _ k (by omega) (by omega) (by omega)
theorem concat_eq (L : List (List Int)) (hl : L.length ≤ 2000000) (hf : L.flatten.length ≤ 2000000) {k : Nat} (hk : 2 * L.length + 2 < k) : slices_Concat_int64_int64.f k L = some L.flatten := by
  unfold slices_Concat_int64_int64.f
  have := concat_l0 L hl hf L.length 0 0 k (by omega) (by simp) (by omega)
  rwa [show ((0 : Nat) : Int) = 0 from rfl] at this
theorem rdOf_at' (ws : List ByteArray) (i : Nat) (h : i < ws.length) : rdOf ByteArray.empty ws (i : Int) = ws[i] := by
  unfold rdOf; rw [Int.toNat_natCast, List.getD_eq_getElem?_getD, List.getElem?_eq_getElem h]; rfl
theorem specRF_l1 (s : ByteArray) (ws : List ByteArray) (hws : ws.length ≤ 2000000) (y : Nat) (hy : y < ws.length) (hz : ws[y].size ≤ 1048576) (H W : Int) : ∀ (d i : Nat) (acc : List Int) (k : Nat), i + d = ws[y].size → acc.length + d ≤ 4000000 →
    spec_ReadFrieze.l1 (k + d + 1) s ws (y : Int) (i : Int) H W acc = spec_ReadFrieze.l0 k s ws ((y + 1 : Nat) : Int) H W (acc ++ cols ((LB ws[y]).drop i)) := by
  intro d
  induction d with
  | zero =>
    intro i acc k hi ha
    rw [Nat.add_zero, spec_ReadFrieze.l1, if_pos (by omega), if_pos (by omega), rdOf_at' ws y hy, if_neg (by omega), w64s (by omega) (by omega), List.drop_of_length_le (by rw [LB_size]; omega : (LB ws[y]).length ≤ i), show ((y : Int) + 1) = ((y + 1 : Nat) : Int) by omega]
    simp [cols]
  | succ d ih =>
    intro i acc k hi ha
    have hlt : i < (LB ws[y]).length := by rw [LB_size]; omega
    have hb := UInt8.toNat_lt ((LB ws[y])[i])
    rw [show k + (d + 1) + 1 = (k + d + 1) + 1 by omega, spec_ReadFrieze.l1, if_pos (by omega), if_pos (by omega), rdOf_at' ws y hy, if_pos (by omega), if_pos (by omega), if_pos (by omega), bt_at ws[y] i hlt, w64s (x := (i : Int) + 1) (by omega) (by omega), w64s (x := (((LB ws[y])[i]).toNat : Int)) (by omega) (by omega), w64s (by omega) (by omega), show ((i : Int) + 1) = ((i + 1 : Nat) : Int) by omega, ih (i + 1) _ k (by omega) (by simp; omega), List.drop_eq_getElem_cons hlt, List.append_assoc]
    rfl
/-- What the reference does at the end. -/
def finRF (s : ByteArray) (H W : Int) (c : List Int) : Option (Int × Int × List Int × Int) := if Frz H W c ∧ txF W.toNat 0 c = LB s then some (H, W, c, 0) else some (0, 0, [], 6)
/-- The width of the last line before the end. -/
def lastW (ws : List ByteArray) (y : Nat) (W : Int) : Int := if y + 1 < ws.length then ((ws.getD (ws.length - 2) ByteArray.empty).size : Int) else W
theorem specRF_go (s : ByteArray) (ws : List ByteArray) (hne : 1 ≤ ws.length) (hws : ws.length ≤ 1048577) (hz : ∀ w ∈ ws, w.size ≤ 1048576) (H : Int) : ∀ (m y : Nat) (acc : List Int) (W : Int) (k : Nat), y + m + 1 = ws.length → acc.length + ((ws.map LB).dropLast.drop y).flatten.length ≤ 1048576 → 2100000 + ((ws.map LB).dropLast.drop y).flatten.length + 2 * m < k →
    spec_ReadFrieze.l0 k s ws (y : Int) H W acc = finRF s H (lastW ws y W) (acc ++ cols ((ws.map LB).dropLast.drop y).flatten) := by
  intro m
  induction m with
  | zero =>
    intro y acc W k hy ha hk
    obtain ⟨k, rfl⟩ : ∃ m, k = m + 1 := ⟨k - 1, by omega⟩
    rw [spec_ReadFrieze.l0, w64s (by omega) (by omega), if_neg (by omega)]
    have hd : (ws.map LB).dropLast.drop y = [] := List.drop_of_length_le (by simp; omega)
    have hl : lastW ws y W = W := by unfold lastW; rw [if_neg (by omega)]
    rw [hd] at ha ⊢
    rw [hl, spec_FriezeText_eq H W acc (by simp at ha; omega) (by omega)]
    unfold finRF
    have e : acc ++ cols ([] : List (List UInt8)).flatten = acc := by simp [cols]
    rw [e]
    by_cases hf : Frz H W acc
    · rw [if_pos hf]
      simp only [Option.bind_some, if_true]
      rw [tl_LB, tl_LB, LB_ba]
      by_cases ht : txF W.toNat 0 acc = LB s
      · rw [if_pos ht, if_pos ⟨hf, ht⟩]
      · rw [if_neg ht, if_neg (fun h => ht h.2)]
    · rw [if_neg hf, if_neg (fun h => hf h.1)]
      simp
  | succ m ih =>
    intro y acc W k hy ha hk
    have hlt : y < ws.length := by omega
    have hlt2 : y < (ws.map LB).dropLast.length := by simp; omega
    have hg : (ws.map LB).dropLast[y] = LB ws[y] := by rw [List.getElem_dropLast, List.getElem_map]
    have hdr : (ws.map LB).dropLast.drop y = LB ws[y] :: (ws.map LB).dropLast.drop (y + 1) := by rw [List.drop_eq_getElem_cons hlt2, hg]
    rw [hdr, List.flatten_cons, List.length_append, LB_size] at ha hk
    obtain ⟨k, rfl⟩ : ∃ q, k = (q + ws[y].size + 1) + 1 := ⟨k - ws[y].size - 2, by omega⟩
    have hzy := hz _ (List.getElem_mem hlt)
    have h1 := specRF_l1 s ws (by omega) y hlt hzy H (ws[y].size : Int) ws[y].size 0 acc k (by omega) (by omega)
    rw [show ((0 : Nat) : Int) = 0 from rfl, List.drop_zero] at h1
    have hcl : (cols (LB ws[y])).length = ws[y].size := by unfold cols; rw [List.length_map, LB_size]
    rw [spec_ReadFrieze.l0, w64s (by omega) (by omega), if_pos (by omega), if_pos (by omega), if_pos (by omega), rdOf_at' ws y hlt, h1, ih (y + 1) _ _ k (by omega) (by rw [List.length_append]; omega) (by omega), hdr, List.flatten_cons]
    have e : acc ++ cols (LB ws[y]) ++ cols ((ws.map LB).dropLast.drop (y + 1)).flatten = acc ++ cols (LB ws[y] ++ ((ws.map LB).dropLast.drop (y + 1)).flatten) := by simp [cols]
    rw [e]
    congr 1
    unfold lastW
    by_cases hq : y + 1 + 1 < ws.length
    · rw [if_pos hq, if_pos (by omega)]
    · rw [if_neg hq, if_pos (by omega)]
      have : ws.length - 2 = y := by omega
      rw [this, List.getD_eq_getElem?_getD, List.getElem?_eq_getElem hlt]; rfl
theorem cutSuf_eq (s : ByteArray) (hs : s.size ≤ 1048576) : (∃ b, LB s = b ++ [10] ∧ strings_CutSuffix.f s ⟨#[10]⟩ = some (ba b, true)) ∨ ((∀ b, LB s ≠ b ++ [10]) ∧ strings_CutSuffix.f s ⟨#[10]⟩ = some (s, false)) := by
  have hz := LB_size s
  have h1 : (⟨#[10]⟩ : ByteArray).size = 1 := by decide
  unfold strings_CutSuffix.f stringslite_CutSuffix.f stringslite_HasSuffix.f
  rw [h1]
  by_cases h0 : (s.size : Int) ≥ ((1 : Nat) : Int)
  · rw [if_pos h0, w64s (by omega) (by omega), if_pos (by omega), if_pos (by omega)]
    have ht : ((s.size : Int) - ((1 : Nat) : Int)).toNat = s.size - 1 := by omega
    simp only [Option.bind_some, ht]
    obtain ⟨b, c, hbc⟩ : ∃ b c, LB s = b ++ [c] := by
      have hne : LB s ≠ [] := fun e => by rw [e] at hz; simp at hz; omega
      exact ⟨(LB s).dropLast, (LB s).getLast hne, (List.dropLast_concat_getLast hne).symm⟩
    have hbl : b.length = s.size - 1 := by have := congrArg List.length hbc; simp at this; omega
    have hex : LB (s.extract (s.size - 1) s.size) = [c] := by
      rw [LB_ext, hbc, ← hbl, List.drop_left, List.take_of_length_le]
      simp; omega
    have hex0 : s.extract 0 (s.size - 1) = ba b := by
      rw [ext_ba, hbc, List.drop_zero, Nat.sub_zero, ← hbl, List.take_left]
    rw [tl_LB, tl_LB, hex, hex0]
    by_cases hc : c = 10
    · subst hc
      left
      refine ⟨b, hbc, ?_⟩
      have : (([10] : List UInt8) == LB (⟨#[10]⟩ : ByteArray)) = true := by decide
      rw [this, if_pos rfl, if_pos (by omega), if_pos (by omega)]
      rfl
    · right
      refine ⟨fun b' e => ?_, ?_⟩
      · rw [hbc] at e
        have := List.append_inj_right' e rfl
        exact hc (by simpa using this)
      · have : (([c] : List UInt8) == LB (⟨#[10]⟩ : ByteArray)) = false := by
          rw [beq_eq_false_iff_ne]
          intro e
          exact hc (List.cons.inj (e.trans (show LB (⟨#[10]⟩ : ByteArray) = [10] from rfl))).1
        rw [this, if_neg (by decide)]
        rfl
  · right
    refine ⟨fun b e => ?_, ?_⟩
    · have := congrArg List.length e; simp at this; omega
    · rw [if_neg h0]
      simp
theorem readRows_go (fl : Bool) (ws : List ByteArray) (hne : 1 ≤ ws.length) (hws : ws.length ≤ 1048577) (hz : ∀ w ∈ ws, w.size ≤ 1048576) (n : Nat) (hn : n = (ws.getD 0 ByteArray.empty).size) : ∀ (d i : Nat) (acc : List (List Int)) (k : Nat), i + d = ws.length → acc.length + d ≤ 1048577 → 1048580 + d < k →
    impl_readRows.l0 k fl ws acc ws (ws.length : Int) (i : Int) = if (∀ w ∈ ws.drop i, (∀ c ∈ LB w, dig c) ∧ w.size = n) then some ((n : Int), acc ++ (ws.drop i).map (fun w => cols (LB w)), fl) else some (0, [], false) := by
  have h0 : rdOf ByteArray.empty ws 0 = ws.getD 0 ByteArray.empty := rfl
  intro d
  induction d with
  | zero =>
    intro i acc k hi ha hk
    obtain ⟨k, rfl⟩ : ∃ m, k = m + 1 := ⟨k - 1, by omega⟩
    rw [impl_readRows.l0, if_neg (by omega), if_pos (by omega), h0, ← hn, List.drop_of_length_le (by omega)]
    simp
  | succ d ih =>
    intro i acc k hi ha hk
    obtain ⟨k, rfl⟩ : ∃ m, k = m + 1 := ⟨k - 1, by omega⟩
    have hlt : i < ws.length := by omega
    have hrd : rdOf ByteArray.empty ws (i : Int) = ws[i] := by unfold rdOf; rw [Int.toNat_natCast, List.getD_eq_getElem?_getD, List.getElem?_eq_getElem hlt]; rfl
    have hzi := hz _ (List.getElem_mem hlt)
    rw [impl_readRows.l0, if_pos (by omega), if_pos (by omega), if_pos (by omega), hrd, readDigits_eq ws[i] hzi (by omega), List.drop_eq_getElem_cons hlt]
    by_cases hd : ∀ c ∈ LB ws[i], dig c
    · rw [if_pos hd]
      simp only [Option.bind_some, if_true]
      rw [if_pos (by omega), h0, ← hn]
      by_cases hs : ws[i].size = n
      · rw [if_pos (by omega), if_pos (by omega), w64s (by omega) (by omega), show ((i : Int) + 1) = ((i + 1 : Nat) : Int) by omega, ih (i + 1) _ k (by omega) (by simp; omega) (by omega)]
        by_cases hr : ∀ w ∈ ws.drop (i + 1), (∀ c ∈ LB w, dig c) ∧ w.size = n
        · rw [if_pos hr, if_pos (by intro w hw; rcases List.mem_cons.1 hw with rfl | hw; exact ⟨hd, hs⟩; exact hr w hw), List.append_assoc]
          rfl
        · rw [if_neg hr, if_neg (fun h => hr (fun w hw => h w (List.mem_cons_of_mem _ hw)))]
      · rw [if_neg (by omega), if_neg (fun h => hs (h _ List.mem_cons_self).2)]
    · rw [if_neg hd, if_neg (fun h => hd (h _ List.mem_cons_self).1)]
      simp
theorem splitL_end (c : UInt8) : ∀ b : List UInt8, splitL c (b ++ [c]) = splitL c b ++ [[]]
  | [] => by simp [splitL]
  | x :: b => by
    have ih := splitL_end c b
    rw [List.cons_append]
    unfold splitL
    by_cases h : x = c
    · rw [if_pos h, if_pos h, ih]; rfl
    · rw [if_neg h, if_neg h, ih]
      cases hq : splitL c b with
      | nil => exact absurd hq (splitL_ne c b)
      | cons y ys => rfl
theorem splitL_back (c : UInt8) : ∀ l : List UInt8, ((splitL c l).map (· ++ [c])).flatten = l ++ [c]
  | [] => by simp [splitL]
  | b :: r => by
    have ih := splitL_back c r
    unfold splitL
    by_cases h : b = c
    · rw [if_pos h, List.map_cons, List.flatten_cons, ih, h]; rfl
    · rw [if_neg h]
      cases hq : splitL c r with
      | nil => exact absurd hq (splitL_ne c r)
      | cons y ys =>
        rw [hq] at ih
        simp only [List.map_cons, List.flatten_cons] at ih ⊢
        rw [List.cons_append, List.cons_append, ih]; rfl
/-- The frieze with a text, and the code. -/
def rdFrz (s : ByteArray) : Int × Int × List Int × Int :=
  if Frz ((splitL 10 (LB s)).length - 1) (lastW (wds 10 s) 0 0) (cols (splitL 10 (LB s)).dropLast.flatten) ∧ txF (lastW (wds 10 s) 0 0).toNat 0 (cols (splitL 10 (LB s)).dropLast.flatten) = LB s
  then (((splitL 10 (LB s)).length : Int) - 1, lastW (wds 10 s) 0 0, cols (splitL 10 (LB s)).dropLast.flatten, 0) else (0, 0, [], 6)
theorem wds_LB (c : UInt8) (s : ByteArray) : (wds c s).map LB = splitL c (LB s) := by
  unfold wds
  rw [List.map_map]
  have : (LB ∘ ba) = id := by funext x; exact LB_ba x
  rw [this, List.map_id]
theorem drop_flat (c : UInt8) (l : List UInt8) : (splitL c l).flatten.length ≤ l.length := by
  have h := splitL_back c l
  have h2 := congrArg List.length h
  have h3 : ∀ L : List (List UInt8), ((L.map (· ++ [c])).flatten).length = L.flatten.length + L.length := by
    intro L
    induction L with
    | nil => rfl
    | cons x L ih => simp only [List.map_cons, List.flatten_cons, List.length_append, ih, List.length_cons, List.length_nil]; omega
  rw [h3] at h2
  have := List.length_pos_iff.2 (splitL_ne c l)
  rw [List.length_append, List.length_singleton] at h2
  omega
theorem dropLast_flat : ∀ L : List (List UInt8), (L.dropLast).flatten.length ≤ L.flatten.length
  | [] => by simp
  | [x] => by simp
  | x :: y :: L => by have := dropLast_flat (y :: L); simp only [List.dropLast_cons_cons, List.flatten_cons, List.length_append] at this ⊢; omega
theorem spec_RF (s : ByteArray) (hs : s.size ≤ 1048576) {k : Nat} (hk : 6000000 < k) : spec_ReadFrieze.f k s = some (rdFrz s) := by
  have hsp := l01Split_eq s 10 hs (k := k) (by omega)
  rw [show ((10 : UInt8).toNat : Int) = 10 from rfl] at hsp
  have hwl := wds_LB 10 s
  have hlen := wds_len 10 s
  have hpos : 1 ≤ (wds 10 s).length := by
    have := List.length_pos_iff.2 (splitL_ne 10 (LB s)); rw [← hwl, List.length_map] at this; omega
  have hfl : ((splitL 10 (LB s)).dropLast).flatten.length ≤ 1048576 := by
    have h1 := dropLast_flat (splitL 10 (LB s)); have h2 := drop_flat 10 (LB s); rw [LB_size] at h2; omega
  unfold spec_ReadFrieze.f
  rw [hsp]
  simp only [Option.bind_some]
  have hg := specRF_go s (wds 10 s) hpos (by omega) (fun w hw => Nat.le_trans (wds_word 10 s w hw) hs) (wrap64 (((wds 10 s).length : Int) - 1)) ((wds 10 s).length - 1) 0 [] 0 k (by omega) (by rw [hwl]; simpa using hfl) (by rw [hwl, List.drop_zero]; omega)
  rw [show ((0 : Nat) : Int) = 0 from rfl, w64s (by omega) (by omega), hwl, List.drop_zero, List.nil_append] at hg
  rw [w64s (by omega) (by omega), hg]
  have hl2 : ((wds 10 s).length : Int) = ((splitL 10 (LB s)).length : Int) := by rw [← hwl, List.length_map]
  unfold finRF rdFrz
  rw [hl2]
  by_cases hc : Frz ((splitL 10 (LB s)).length - 1) (lastW (wds 10 s) 0 0) (cols (splitL 10 (LB s)).dropLast.flatten) ∧ txF (lastW (wds 10 s) 0 0).toNat 0 (cols (splitL 10 (LB s)).dropLast.flatten) = LB s
  · rw [if_pos hc, if_pos hc]
  · rw [if_neg hc, if_neg hc]
theorem cols_flat (L : List (List UInt8)) : (L.map cols).flatten = cols L.flatten := by
  induction L with
  | nil => rfl
  | cons x L ih => rw [List.map_cons, List.flatten_cons, ih, List.flatten_cons]; simp [cols]
theorem impl_RF (s : ByteArray) (hs : s.size ≤ 1048576) {k : Nat} (hk : 6000000 < k) : impl_ReadFrieze.f k s = some (rdFrz s) := by
  have hsz := LB_size s
  unfold impl_ReadFrieze.f impl_readRows.f
  rcases cutSuf_eq s hs with ⟨b, hb, hcut⟩ | ⟨hno, hcut⟩
  · -- the text ends with a newline
    have hbl : b.length + 1 = s.size := by rw [← hsz, hb]; simp
    have hbs : (ba b).size ≤ 1048576 := by show b.length ≤ _; omega
    rw [hcut]
    simp only [Option.bind_some]
    rw [strSplit_eq (ba b) 10 hbs]
    simp only [Option.bind_some]
    have hwl := wds_LB 10 (ba b)
    rw [LB_ba] at hwl
    have hspl : splitL 10 (LB s) = splitL 10 b ++ [[]] := by rw [hb]; exact splitL_end 10 b
    have hdl : (splitL 10 (LB s)).dropLast = splitL 10 b := by rw [hspl, List.dropLast_concat]
    have hpos : 1 ≤ (wds 10 (ba b)).length := by
      have := List.length_pos_iff.2 (splitL_ne 10 b); rw [← hwl, List.length_map] at this; omega
    have hlen := wds_len 10 (ba b)
    have hg := readRows_go true (wds 10 (ba b)) hpos (by omega) (fun w hw => Nat.le_trans (wds_word 10 _ w hw) hbs) _ rfl (wds 10 (ba b)).length 0 [] k (by omega) (by simp; omega) (by omega)
    rw [show ((0 : Nat) : Int) = 0 from rfl, List.drop_zero, List.nil_append] at hg
    rw [hg]
    have hws : wds 10 s = wds 10 (ba b) ++ [ba []] := by unfold wds; rw [hspl, LB_ba]; simp
    have hrows : (wds 10 (ba b)).map (fun w => cols (LB w)) = (splitL 10 b).map cols := by rw [← hwl, List.map_map]; rfl
    have hL : ((splitL 10 (LB s)).length : Int) - 1 = ((wds 10 (ba b)).length : Int) := by rw [hspl, ← hwl]; simp
    have hfl : (splitL 10 b).flatten.length ≤ 1048576 := by have := drop_flat 10 b; omega
    have hcat : slices_Concat_int64_int64.f k ((wds 10 (ba b)).map (fun w => cols (LB w))) = some (cols (splitL 10 b).flatten) := by
      rw [hrows, concat_eq _ (by rw [List.length_map, ← hwl, List.length_map]; omega) (by rw [cols_flat]; unfold cols; rw [List.length_map]; omega) (by rw [List.length_map, ← hwl, List.length_map]; omega), cols_flat]
    have hlast : lastW (wds 10 s) 0 0 = (((wds 10 (ba b)).getD ((wds 10 (ba b)).length - 1) ByteArray.empty).size : Int) := by
      unfold lastW
      rw [hws]
      simp only [List.length_append, List.length_cons, List.length_nil]
      rw [if_pos (by omega), show (wds 10 (ba b)).length + (0 + 1) - 2 = (wds 10 (ba b)).length - 1 by omega, List.getD_eq_getElem?_getD, List.getElem?_append_left (by omega), ← List.getD_eq_getElem?_getD]
    by_cases hall : ∀ w ∈ wds 10 (ba b), (∀ c ∈ LB w, dig c) ∧ w.size = ((wds 10 (ba b)).getD 0 ByteArray.empty).size
    · rw [if_pos hall]
      simp only [Option.bind_some]
      rw [hcat]
      simp only [Option.bind_some, if_true, List.length_map, impl_IsFrieze_eq, decide_eq_true_eq]
      have hW : lastW (wds 10 s) 0 0 = (((wds 10 (ba b)).getD 0 ByteArray.empty).size : Int) := by
        rw [hlast, List.getD_eq_getElem?_getD, List.getElem?_eq_getElem (show (wds 10 (ba b)).length - 1 < (wds 10 (ba b)).length by omega), Option.getD_some, (hall _ (List.getElem_mem _)).2]
      unfold rdFrz
      rw [hL, hW, hdl]
      by_cases hf : Frz ((wds 10 (ba b)).length : Int) (((wds 10 (ba b)).getD 0 ByteArray.empty).size : Int) (cols (splitL 10 b).flatten)
      · have hw1 := hf.2.1
        have ht : txF (((wds 10 (ba b)).getD 0 ByteArray.empty).size : Int).toNat 0 (cols (splitL 10 b).flatten) = LB s := by
          rw [Int.toNat_natCast, txF_lines _ (by omega) (splitL 10 b) (fun p hp => ?_), splitL_back, hb]
          have hm : ba p ∈ wds 10 (ba b) := by unfold wds; rw [LB_ba]; exact List.mem_map.2 ⟨p, hp, rfl⟩
          have := hall _ hm
          rw [LB_ba] at this
          exact ⟨this.2, this.1⟩
        rw [if_pos hf, if_pos ⟨hf, ht⟩]
      · rw [if_neg hf, if_neg (fun h => hf h.1)]
    · rw [if_neg hall]
      simp only [Option.bind_some]
      have hc0 : slices_Concat_int64_int64.f k [] = some [] := by
        have := concat_eq [] (by simp) (by simp) (k := k) (by simp; omega)
        simpa using this
      rw [hc0]
      simp only [Option.bind_some]
      rw [if_neg (by decide)]
      unfold rdFrz
      rw [if_neg]
      rintro ⟨hf, ht⟩
      rw [hL, hdl] at hf
      rw [hdl] at ht
      apply hall
      obtain ⟨f1, f2, f3, f4⟩ := hf
      obtain ⟨n, hn⟩ := Int.eq_ofNat_of_zero_le (show 0 ≤ lastW (wds 10 s) 0 0 by omega)
      rw [hn] at f2 f3 ht
      rw [Int.toNat_natCast] at ht
      have hrw := txF_rows n (by omega) (wds 10 (ba b)).length (cols (splitL 10 b).flatten) (by rw [← Int.natCast_mul] at f3; omega) f4
      rw [ht, hdl] at hrw
      have hsize : ∀ w ∈ wds 10 (ba b), w.size = n := fun w hw => by
        obtain ⟨p, h1, rfl⟩ := List.mem_map.1 hw
        rw [LB_ba] at h1
        exact hrw.1 p h1
      intro w hw
      refine ⟨fun c hc => ?_, ?_⟩
      · obtain ⟨p, h1, rfl⟩ := List.mem_map.1 hw
        rw [LB_ba] at h1 hc
        have := f4 ((c.toNat : Int) - 48) (List.mem_map.2 ⟨c, List.mem_flatten.2 ⟨p, h1, hc⟩, rfl⟩)
        unfold dig; omega
      · rw [hsize w hw, List.getD_eq_getElem?_getD, List.getElem?_eq_getElem (show 0 < (wds 10 (ba b)).length by omega), Option.getD_some, hsize _ (List.getElem_mem _)]
  · -- no newline at the end
    rw [hcut]
    simp only [Option.bind_some]
    rw [strSplit_eq s 10 hs]
    simp only [Option.bind_some]
    have hwl := wds_LB 10 s
    have hpos : 1 ≤ (wds 10 s).length := by
      have := List.length_pos_iff.2 (splitL_ne 10 (LB s)); rw [← hwl, List.length_map] at this; omega
    have hlen := wds_len 10 s
    have hg := readRows_go false (wds 10 s) hpos (by omega) (fun w hw => Nat.le_trans (wds_word 10 _ w hw) hs) _ rfl (wds 10 s).length 0 [] k (by omega) (by simp; omega) (by omega)
    rw [show ((0 : Nat) : Int) = 0 from rfl, List.drop_zero, List.nil_append] at hg
    rw [hg]
    have hno2 : rdFrz s = (0, 0, [], 6) := by
      unfold rdFrz
      rw [if_neg]
      rintro ⟨hf, ht⟩
      obtain ⟨f1, f2, f3, f4⟩ := hf
      obtain ⟨n, hn⟩ := Int.eq_ofNat_of_zero_le (show 0 ≤ lastW (wds 10 s) 0 0 by omega)
      rw [hn] at f2 f3 ht
      rw [Int.toNat_natCast] at ht
      obtain ⟨h, hh⟩ := Int.eq_ofNat_of_zero_le (show 0 ≤ ((splitL 10 (LB s)).length : Int) - 1 by omega)
      rw [hh] at f1 f3
      obtain ⟨b, hb⟩ := (txF_rows n (by omega) h _ (by rw [← Int.natCast_mul] at f3; omega) f4).2 (by omega)
      rw [ht] at hb
      exact hno b hb
    have hfl : (splitL 10 (LB s)).flatten.length ≤ 1048576 := by have := drop_flat 10 (LB s); omega
    have hcat : slices_Concat_int64_int64.f k ((wds 10 s).map (fun w => cols (LB w))) = some (cols (splitL 10 (LB s)).flatten) := by
      have hrows : (wds 10 s).map (fun w => cols (LB w)) = (splitL 10 (LB s)).map cols := by rw [← hwl, List.map_map]; rfl
      rw [hrows, concat_eq _ (by rw [List.length_map, ← hwl, List.length_map]; omega) (by rw [cols_flat]; unfold cols; rw [List.length_map]; omega) (by rw [List.length_map, ← hwl, List.length_map]; omega), cols_flat]
    have hc0 : slices_Concat_int64_int64.f k [] = some [] := by
      have := concat_eq [] (by simp) (by simp) (k := k) (by simp; omega)
      simpa using this
    rw [hno2]
    by_cases hall : ∀ w ∈ wds 10 s, (∀ c ∈ LB w, dig c) ∧ w.size = ((wds 10 s).getD 0 ByteArray.empty).size
    · rw [if_pos hall]
      simp only [Option.bind_some]
      rw [hcat]; simp
    · rw [if_neg hall]
      simp only [Option.bind_some]
      rw [hc0]; simp

end Go.Proofs.YtnblfcibgokccaaDoor.LG
