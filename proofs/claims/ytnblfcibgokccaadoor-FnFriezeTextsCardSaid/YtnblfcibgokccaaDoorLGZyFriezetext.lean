/- Plain lemmas on the program's text of a frieze. -/
import Derived.Test.YtnblfcibgokccaaDoorAid
import Derived.Test.YtnblfcibgokccaaDoorPGx0
import Derived.Test.YtnblfcibgokccaaDoorLGZoaBytes
import Derived.Test.YtnblfcibgokccaaDoorLGZpTexts
import Derived.Test.YtnblfcibgokccaaDoorLGZwReadfrieze
import Derived.Test.YtnblfcibgokccaaDoorPGx0
import Derived.Test.YtnblfcibgokccaaDoorPGx1
namespace Go.Proofs.YtnblfcibgokccaaDoor.LG
open Go.RowKit Go.Proofs.YtnblfcibgokccaaDoor.PG Go.Proofs.YtnblfcibgokccaaDoorW.PrintWords Go.Proofs.YtnblfcibgokccaaDoorW.PrintLast Go.Proofs.YtnblfcibgokccaaDoor.Aid
set_option linter.unusedVariables false
set_option linter.unusedSimpArgs false

theorem dig_rows : ∀ l : List Int, (∀ x ∈ l, 0 ≤ x ∧ x ≤ 9) → (l.map Lib.itoa).flatten = l.map (fun x => UInt8.ofNat (48 + x.toNat))
  | [], _ => rfl
  | x :: l, h => by
    have hx := h x (by simp)
    have ih := dig_rows l (fun y hy => h y (by simp [hy]))
    have e : Lib.itoa x = [UInt8.ofNat (48 + x.toNat)] := by
      unfold Lib.itoa
      rw [if_neg (by omega), Lib.decDigits_one (by omega)]
    rw [List.map_cons, List.flatten_cons, e, ih]; rfl
theorem digitsText_eq (l : List Int) (hl : l.length ≤ 1000) (hx : ∀ x ∈ l, 0 ≤ x ∧ x ≤ 9) {k : Nat} (hk : l.length < k) : impl_digitsText.f k l = some (ba (l.map (fun x => UInt8.ofNat (48 + x.toNat)))) := by
  unfold impl_digitsText.f
  rw [joined_eq l ⟨#[]⟩ hl (fun x h => text_eq x (by have := hx x h; omega) (by have := hx x h; omega)) (fun x h => by have := itoa_len x (by have := hx x h; omega) (by have := hx x h; omega); omega) (by decide) (k := k) hk]
  rw [show (⟨#[]⟩ : ByteArray).data.toList = [] from rfl, join_nil_sep, dig_rows l hx]
  rfl
theorem rows_go (k q : Nat) (l : List Int) (hq : 1 ≤ q ∧ q ≤ 24) (hx : ∀ x ∈ l, 0 ≤ x ∧ x ≤ 9) (hk : 1000 < k) : ∀ (d i : Nat) (s : ByteArray), (i + d) * q = l.length → (List.range' i d).foldl (impl_FriezeText.add k q l) (some s) = some (s ++ ba (txF q 0 (l.drop (i * q)))) := by
  intro d
  induction d with
  | zero =>
    intro i s h
    rw [Nat.add_zero] at h
    rw [h, List.drop_length]
    show some s = some (s ++ ba [])
    congr 1
    apply ByteArray.ext
    simp [ba]
  | succ d ih =>
    intro i s h
    have e1 : (i + (d + 1)) * q = (i + 1 + d) * q := by rw [Nat.add_assoc, Nat.add_comm 1 d]
    have e2 : (i + 1) * q = i * q + q := Nat.succ_mul i q
    have e3 : (i + 1) * q ≤ (i + 1 + d) * q := Nat.mul_le_mul_right q (by omega)
    have hle : i * q + q ≤ l.length := by omega
    have hl' : ((l.drop (i * q)).take q).length = q := by rw [List.length_take, List.length_drop]; omega
    have hd : l.drop (i * q) = (l.drop (i * q)).take q ++ l.drop ((i + 1) * q) := by
      rw [e2, ← List.drop_drop]
      exact (List.take_append_drop q _).symm
    have hmem : ∀ x ∈ (l.drop (i * q)).take q, 0 ≤ x ∧ x ≤ 9 := fun x h => hx x (List.drop_subset _ _ (List.take_subset _ _ h))
    have ht := digitsText_eq ((l.drop (i * q)).take q) (by omega) hmem (k := k) (by omega)
    have hsz : (ba (((l.drop (i * q)).take q).map (fun x => UInt8.ofNat (48 + x.toNat)))).size ≤ 1000 := by
      show (((l.drop (i * q)).take q).map (fun x => UInt8.ofNat (48 + x.toNat))).length ≤ 1000
      rw [List.length_map]; omega
    rw [show List.range' i (d + 1) = i :: List.range' (i + 1) d from rfl, List.foldl_cons]
    rw [show impl_FriezeText.add k q l (some s) i = some (s ++ (ba (((l.drop (i * q)).take q).map (fun x => UInt8.ofNat (48 + x.toNat))) ++ (⟨#[10]⟩ : ByteArray))) by
      unfold impl_FriezeText.add
      rw [Option.bind_some, ht, Option.bind_some, if_pos hsz]]
    rw [ih (i + 1) _ (by omega)]
    conv => rhs; rw [hd, txF_row q (l.drop ((i + 1) * q)) _ 0 (by omega) (by intro e; rw [e] at hl'; simp at hl'; omega)]
    congr 1
    apply ByteArray.ext
    simp [ba]
theorem impl_FriezeText_eq (h w : Int) (l : List Int) {k : Nat} (hk : 1000 < k) : impl_FriezeText.f k h w l = if Frz h w l then some (ba (txF w.toNat 0 l), 0) else some (⟨#[]⟩, 1) := by
  unfold impl_FriezeText.f
  rw [impl_IsFrieze_eq]
  simp only [Option.bind_some, decide_eq_true_eq]
  by_cases hf : Frz h w l
  · rw [if_pos hf, if_pos hf]
    obtain ⟨f1, f2, f3, f4⟩ := hf
    obtain ⟨m, rfl⟩ := Int.eq_ofNat_of_zero_le (show 0 ≤ h by omega)
    obtain ⟨q, rfl⟩ := Int.eq_ofNat_of_zero_le (show 0 ≤ w by omega)
    simp only [Int.toNat_natCast]
    have hlen : l.length = m * q := by exact_mod_cast f3
    rw [if_pos ⟨f1.1, f1.2, f2.1, f2.2, hlen⟩]
    have hg := rows_go k q l (by omega) f4 hk m 0 ⟨#[]⟩ (by rw [Nat.zero_add]; exact hlen.symm)
    unfold impl_FriezeText.rows
    rw [List.range_eq_range', hg, Option.bind_some, Nat.zero_mul, List.drop_zero]
    congr 2
  · rw [if_neg hf, if_neg hf]

end Go.Proofs.YtnblfcibgokccaaDoor.LG
