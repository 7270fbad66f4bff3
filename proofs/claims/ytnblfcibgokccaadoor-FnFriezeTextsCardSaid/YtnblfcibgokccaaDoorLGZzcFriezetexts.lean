/- Plain lemmas on a frieze that is found back from its text. -/
import Derived.Test.YtnblfcibgokccaaDoorAid
import Derived.Test.YtnblfcibgokccaaDoorPGx0
import Derived.Test.YtnblfcibgokccaaDoorLGZoaBytes
import Derived.Test.YtnblfcibgokccaaDoorLGZtRead
import Derived.Test.YtnblfcibgokccaaDoorLGZvReadpattern
import Derived.Test.YtnblfcibgokccaaDoorLGZwReadfrieze
import Derived.Test.YtnblfcibgokccaaDoorPGx0
import Derived.Test.YtnblfcibgokccaaDoorPGx8
namespace Go.Proofs.YtnblfcibgokccaaDoor.LG
open Go.RowKit Go.Proofs.YtnblfcibgokccaaDoor.PG Go.Proofs.YtnblfcibgokccaaDoorW.PrintWords Go.Proofs.YtnblfcibgokccaaDoorW.PrintLast Go.Proofs.YtnblfcibgokccaaDoor.Aid
set_option linter.unusedVariables false
set_option linter.unusedSimpArgs false

theorem txF_len (w : Nat) : ∀ (l : List Int) (i : Nat), (txF w i l).length ≤ 2 * l.length
  | [], _ => by simp [txF]
  | x :: l, i => by
    have h1 := txF_len w l 0
    have h2 := txF_len w l (i + 1)
    rw [txF]
    by_cases h : i + 1 = w
    · rw [if_pos h]; simp only [List.length_cons]; omega
    · rw [if_neg h]; simp only [List.length_cons]; omega
/-- The rows of a frieze, as texts. -/
def rowsU (w : Nat) : Nat → List Int → List (List UInt8)
  | 0, _ => []
  | h + 1, l => (l.take w).map (fun x => UInt8.ofNat (48 + x.toNat)) :: rowsU w h (l.drop w)
theorem rowsU_len (w : Nat) : ∀ (h : Nat) (l : List Int), (rowsU w h l).length = h
  | 0, _ => rfl
  | h + 1, l => by simp [rowsU, rowsU_len w h]
theorem rowsU_row (w : Nat) : ∀ (h : Nat) (l : List Int), l.length = h * w → ∀ p ∈ rowsU w h l, p.length = w
  | 0, _, _, p, hp => by cases hp
  | h + 1, l, hl, p, hp => by
    rw [Nat.add_mul, Nat.one_mul] at hl
    rcases List.mem_cons.1 hp with rfl | hp
    · rw [List.length_map, List.length_take]; omega
    · exact rowsU_row w h (l.drop w) (by rw [List.length_drop]; omega) p hp
theorem rowsU_cols (w : Nat) : ∀ (h : Nat) (l : List Int), l.length = h * w → (∀ x ∈ l, 0 ≤ x ∧ x ≤ 9) → cols (rowsU w h l).flatten = l
  | 0, l, hl, _ => by
    have : l = [] := List.eq_nil_of_length_eq_zero (by omega)
    subst this; rfl
  | h + 1, l, hl, hx => by
    rw [Nat.add_mul, Nat.one_mul] at hl
    have ih := rowsU_cols w h (l.drop w) (by rw [List.length_drop]; omega) (fun x hx' => hx x (List.mem_of_mem_drop hx'))
    unfold cols at ih ⊢
    rw [rowsU, List.flatten_cons, List.map_append, ih, List.map_map]
    conv => rhs; rw [← List.take_append_drop w l]
    congr 1
    conv => rhs; rw [← List.map_id (l.take w)]
    refine List.map_congr_left fun x h' => ?_
    have b := hx x (List.mem_of_mem_take h')
    show ((UInt8.ofNat (48 + x.toNat)).toNat : Int) - 48 = x
    rw [UInt8.toNat_ofNat']; omega
theorem splitL_txF (w : Nat) (hw : 1 ≤ w) : ∀ (h : Nat) (l : List Int), l.length = h * w → (∀ x ∈ l, 0 ≤ x ∧ x ≤ 9) → splitL 10 (txF w 0 l) = rowsU w h l ++ [[]]
  | 0, l, hl, _ => by
    have : l = [] := List.eq_nil_of_length_eq_zero (by omega)
    subst this; rfl
  | h + 1, l, hl, hx => by
    rw [Nat.add_mul, Nat.one_mul] at hl
    have hd : l = l.take w ++ l.drop w := (List.take_append_drop w l).symm
    have htl : (l.take w).length = w := by rw [List.length_take]; omega
    have hne : l.take w ≠ [] := fun e => by rw [e] at htl; simp at htl; omega
    have ih := splitL_txF w hw h (l.drop w) (by rw [List.length_drop]; omega) (fun x hx' => hx x (List.mem_of_mem_drop hx'))
    have e : txF w 0 l = (l.take w).map (fun x => UInt8.ofNat (48 + x.toNat)) ++ 10 :: txF w 0 (l.drop w) := by
      conv => lhs; rw [hd]
      exact txF_row w (l.drop w) (l.take w) 0 (by omega) hne
    have h10 : (10 : UInt8) ∉ (l.take w).map (fun x => UInt8.ofNat (48 + x.toNat)) := fun hm => by
      obtain ⟨x, h1, h2⟩ := List.mem_map.1 hm
      have h3 := hx x (List.mem_of_mem_take h1)
      have := congrArg UInt8.toNat h2
      rw [UInt8.toNat_ofNat'] at this
      have t10 : (10 : UInt8).toNat = 10 := rfl
      omega
    rw [e, splitL_head 10 _ _ h10, ih]
    rfl
theorem rdFrz_text {h w : Int} {l : List Int} (hf : Frz h w l) : rdFrz (ba (txF w.toNat 0 l)) = (h, w, l, 0) := by
  obtain ⟨f1, f2, f3, f4⟩ := hf
  obtain ⟨m, rfl⟩ := Int.eq_ofNat_of_zero_le (show 0 ≤ h by omega)
  obtain ⟨q, rfl⟩ := Int.eq_ofNat_of_zero_le (show 0 ≤ w by omega)
  simp only [Int.toNat_natCast]
  have hlen : l.length = m * q := by exact_mod_cast f3
  have hs := splitL_txF q (by omega) m l hlen f4
  have e1 : (splitL 10 (LB (ba (txF q 0 l)))).dropLast = rowsU q m l := by rw [LB_ba, hs]; simp
  have e2 : (splitL 10 (LB (ba (txF q 0 l)))).length = m + 1 := by rw [LB_ba, hs]; simp [rowsU_len]
  have e3 : lastW (wds 10 (ba (txF q 0 l))) 0 0 = (q : Int) := by
    have hwl : (wds 10 (ba (txF q 0 l))).length = m + 1 := by unfold wds; rw [List.length_map, e2]
    unfold lastW
    rw [hwl, if_pos (by omega)]
    have hlt : m - 1 < (rowsU q m l).length := by rw [rowsU_len]; omega
    have g : (wds 10 (ba (txF q 0 l))).getD (m + 1 - 2) ByteArray.empty = ba ((rowsU q m l)[m - 1]) := by
      unfold wds
      rw [LB_ba, hs, show m + 1 - 2 = m - 1 by omega, List.getD_eq_getElem?_getD, List.getElem?_map, List.getElem?_append_left hlt, List.getElem?_eq_getElem hlt]
      rfl
    rw [g]
    have := rowsU_row q m l hlen _ (List.getElem_mem hlt)
    show (((rowsU q m l)[m - 1]).length : Int) = q
    omega
  have e4 : cols (splitL 10 (LB (ba (txF q 0 l)))).dropLast.flatten = l := by rw [e1]; exact rowsU_cols q m l hlen f4
  unfold rdFrz
  rw [e2, e3, e4, show (((m + 1 : Nat) : Int) - 1) = (m : Int) by omega, if_pos ⟨⟨f1, f2, f3, f4⟩, by rw [LB_ba, Int.toNat_natCast]⟩]
theorem rdFrz_back {s : ByteArray} {h w e : Int} {l : List Int} (hr : rdFrz s = (h, w, l, e)) (he : e = 0) : Frz h w l ∧ ba (txF w.toNat 0 l) = s := by
  unfold rdFrz at hr
  by_cases hc : Frz ((splitL 10 (LB s)).length - 1) (lastW (wds 10 s) 0 0) (cols (splitL 10 (LB s)).dropLast.flatten) ∧ txF (lastW (wds 10 s) 0 0).toNat 0 (cols (splitL 10 (LB s)).dropLast.flatten) = LB s
  · rw [if_pos hc] at hr
    simp only [Prod.mk.injEq] at hr
    obtain ⟨rfl, rfl, rfl, _⟩ := hr
    exact ⟨hc.1, by rw [hc.2, ba_LB]⟩
  · rw [if_neg hc] at hr
    simp only [Prod.mk.injEq] at hr
    omega
theorem rdFrz_len (s : ByteArray) : (rdFrz s).2.2.1.length ≤ 144 := by
  unfold rdFrz
  by_cases hc : Frz ((splitL 10 (LB s)).length - 1) (lastW (wds 10 s) 0 0) (cols (splitL 10 (LB s)).dropLast.flatten) ∧ txF (lastW (wds 10 s) 0 0).toNat 0 (cols (splitL 10 (LB s)).dropLast.flatten) = LB s
  · rw [if_pos hc]
    have := frz_mul hc.1.1 hc.1.2.1
    have := hc.1.2.2.1
    show (cols (splitL 10 (LB s)).dropLast.flatten).length ≤ 144
    omega
  · rw [if_neg hc]; simp
theorem likeInts_go (l : List Int) (hl : l.length ≤ 1048576) : ∀ (d i k : Nat), i + d = l.length → d < k → laws_likeInts.l0 k l l (i : Int) = some true := by
  intro d
  induction d with
  | zero =>
    intro i k hi hk
    obtain ⟨k, rfl⟩ : ∃ m, k = m + 1 := ⟨k - 1, by omega⟩
    rw [laws_likeInts.l0, if_neg (by omega)]
  | succ d ih =>
    intro i k hi hk
    obtain ⟨k, rfl⟩ : ∃ m, k = m + 1 := ⟨k - 1, by omega⟩
    rw [laws_likeInts.l0, if_pos (by omega), if_pos (by omega), if_pos (by omega), if_pos rfl, w64s (by omega) (by omega)]
    exact ih (i + 1) k (by omega) (by omega)
theorem likeInts_refl (l : List Int) (hl : l.length ≤ 1048576) {k : Nat} (hk : l.length < k) : laws_likeInts.f k l l = some true := by
  unfold laws_likeInts.f
  rw [if_pos rfl]
  exact likeInts_go l hl l.length 0 k (by omega) hk

end Go.Proofs.YtnblfcibgokccaaDoor.LG
