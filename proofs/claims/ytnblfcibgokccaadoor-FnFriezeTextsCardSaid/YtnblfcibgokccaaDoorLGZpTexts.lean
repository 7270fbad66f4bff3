/- Plain lemmas on texts: numbers in decimal, joined. -/
import Derived.Test.YtnblfcibgokccaaDoorAid
import Derived.Test.YtnblfcibgokccaaDoorPGx0
import Derived.Test.YtnblfcibgokccaaDoorLGBLists
import Derived.Test.YtnblfcibgokccaaDoorPGx1
import Derived.Lib.ItoaNum
import Derived.Lib.Join
namespace Go.Proofs.YtnblfcibgokccaaDoor.LG
open Go.RowKit Go.Proofs.YtnblfcibgokccaaDoor.PG Go.Proofs.YtnblfcibgokccaaDoorW.PrintWords Go.Proofs.YtnblfcibgokccaaDoorW.PrintLast Go.Proofs.YtnblfcibgokccaaDoor.Aid
set_option linter.unusedVariables false
set_option linter.unusedSimpArgs false

/-- A number's text. -/
def txt (n : Int) : ByteArray := ⟨(Lib.itoa n).toArray⟩
theorem ba_app (a b : List UInt8) : (⟨a.toArray⟩ : ByteArray) ++ ⟨b.toArray⟩ = ⟨(a ++ b).toArray⟩ := by
  apply ByteArray.ext; simp
theorem joinTail_cons (s x : List UInt8) (r : List (List UInt8)) : Lib.joinTail s (x :: r) = s ++ x ++ Lib.joinTail s r := by simp [Lib.joinTail]
theorem text_eq (n : Int) (h0 : -9223372036854775808 ≤ n) (h1 : n ≤ 9223372036854775807) : impl_text.f n = some (txt n) := by
  unfold impl_text.f strconv_FormatInt.f txt
  rw [if_pos ⟨⟨h0, h1⟩, rfl⟩]
  rfl
theorem itoa_len (n : Int) (h0 : 0 ≤ n) (h1 : n < 100) : (Lib.itoa n).length ≤ 2 := by
  unfold Lib.itoa
  rw [if_neg (by omega)]
  by_cases h : n.toNat < 10
  · rw [Lib.decDigits_one h]; simp
  · rw [Lib.decDigits_two h (by omega)]; simp
theorem join_len (s : List UInt8) (r : List (List UInt8)) (hr : ∀ x ∈ r, x.length ≤ 21) : (Lib.joinTail s r).length ≤ r.length * (s.length + 21) := by
  induction r with
  | nil => simp [Lib.joinTail]
  | cons x r ih =>
    have := ih (fun y hy => hr y (by simp [hy]))
    have h2 := hr x (by simp)
    rw [joinTail_cons]
    simp only [List.length_append, List.length_cons]
    rw [Nat.add_mul]; omega
theorem join_len' (s : List UInt8) (r : List (List UInt8)) (hr : ∀ x ∈ r, x.length ≤ 21) : (Lib.join r s).length ≤ r.length * (s.length + 21) := by
  cases r with
  | nil => simp [Lib.join]
  | cons x r =>
    have := join_len s r (fun y hy => hr y (by simp [hy]))
    have h2 := hr x (by simp)
    rw [Lib.join_cons]
    simp only [List.length_append, List.length_cons]
    rw [Nat.add_mul]; omega
theorem joined_go (l : List Int) (by_ : ByteArray) (hl : l.length ≤ 1000) (hw : ∀ x ∈ l, impl_text.f x = some (txt x)) (hlen : ∀ x ∈ l, (Lib.itoa x).length ≤ 21) (hb : by_.size ≤ 1000) :
    ∀ (d i : Nat) (k : Nat), i + d = l.length → d < k →
    impl_joined.l0 k by_ ((l.take i).map txt) l (l.length : Int) (i : Int) = some ⟨(Lib.join (l.map Lib.itoa) by_.data.toList).toArray⟩ := by
  intro d
  induction d with
  | zero =>
    intro i k hi hk
    obtain ⟨k, rfl⟩ : ∃ m, k = m + 1 := ⟨k - 1, by omega⟩
    simp only [impl_joined.l0]
    rw [if_neg (by omega), List.take_of_length_le (by omega)]
    unfold strings_Join.f
    have e : ((l.map txt).map (fun x => x.data.toList)) = l.map Lib.itoa := by rw [List.map_map]; rfl
    have hq := join_len' by_.data.toList (l.map Lib.itoa) (by intro x hx; obtain ⟨y, hy, rfl⟩ := List.mem_map.1 hx; exact hlen y hy)
    have hbl : by_.data.toList.length = by_.size := rfl
    rw [List.length_map, hbl] at hq
    have h3 : l.length * (by_.size + 21) ≤ 1000 * 1021 := Nat.mul_le_mul hl (by omega)
    rw [e, if_pos ⟨by simp; omega, by omega⟩]
    rfl
  | succ d ih =>
    intro i k hi hk
    obtain ⟨k, rfl⟩ : ∃ m, k = m + 1 := ⟨k - 1, by omega⟩
    have hlt : i < l.length := by omega
    have hrd : rd l (i : Int) = l[i] := by rw [rd_nat, List.getD_eq_getElem?_getD, List.getElem?_eq_getElem hlt]; rfl
    simp only [impl_joined.l0]
    rw [if_pos (by omega), if_pos (by omega), if_pos (by omega), hrd, hw _ (List.getElem_mem hlt)]
    simp only [Option.bind_some]
    rw [if_pos (by simp; omega), w64s (by omega) (by omega)]
    have := ih (i + 1) k (by omega) (by omega)
    have e : (l.take (i + 1)).map txt = (l.take i).map txt ++ [txt l[i]] := by rw [List.take_succ_eq_append_getElem hlt, List.map_append]; rfl
    rw [show ((i : Int) + 1) = ((i + 1 : Nat) : Int) by omega, ← e]
    exact this
theorem joined_eq (l : List Int) (by_ : ByteArray) (hl : l.length ≤ 1000) (hw : ∀ x ∈ l, impl_text.f x = some (txt x)) (hlen : ∀ x ∈ l, (Lib.itoa x).length ≤ 21) (hb : by_.size ≤ 1000) {k : Nat} (hk : l.length < k) :
    impl_joined.f k by_ l = some ⟨(Lib.join (l.map Lib.itoa) by_.data.toList).toArray⟩ := by
  unfold impl_joined.f
  exact joined_go l by_ hl hw hlen hb l.length 0 k (by omega) hk
theorem join_nil_sep : ∀ l : List (List UInt8), Lib.join l [] = l.flatten
  | [] => rfl
  | x :: r => by
    rw [Lib.join_cons]
    unfold Lib.joinTail
    simp

end Go.Proofs.YtnblfcibgokccaaDoor.LG
