/- Plain lemmas on texts: numbers in decimal, joined. -/
import Derived.Test.YtnblfcibgokccaaGreatDoorAid
import Derived.Test.YtnblfcibgokccaaGreatDoorPCx0
import Derived.Test.YtnblfcibgokccaaGreatDoorLCBLists
import Derived.Test.YtnblfcibgokccaaGreatDoorPCx0
import Derived.Test.YtnblfcibgokccaaGreatDoorPCx10
import Derived.Test.YtnblfcibgokccaaGreatDoorPCx12
import Derived.Lib.ItoaNum
import Derived.Lib.Join
namespace Go.Proofs.YtnblfcibgokccaaGreatDoor.LC
open Go.RowKit Go.Proofs.YtnblfcibgokccaaGreatDoor.PC Go.Proofs.YtnblfcibgokccaaGreatDoorW.PrintWords Go.Proofs.YtnblfcibgokccaaGreatDoorW.PrintLast Go.Proofs.YtnblfcibgokccaaGreatDoor.Aid
set_option linter.unusedVariables false
set_option linter.unusedSimpArgs false

/-- A number's text. -/
def txt (n : Int) : ByteArray := ⟨(Lib.itoa n).toArray⟩
theorem ba_app (a b : List UInt8) : (⟨a.toArray⟩ : ByteArray) ++ ⟨b.toArray⟩ = ⟨(a ++ b).toArray⟩ := by
  apply ByteArray.ext; simp
theorem joinTail_cons (s x : List UInt8) (r : List (List UInt8)) : Lib.joinTail s (x :: r) = s ++ x ++ Lib.joinTail s r := by simp [Lib.joinTail]
theorem strDigit (n : Nat) (h : n < 10) : strOfNums [wrap64 (48 + (n : Int)) % 256] = ⟨[UInt8.ofNat (48 + n)].toArray⟩ := by
  unfold strOfNums
  rw [w64s (by omega) (by omega)]
  have : ((48 + (n : Int)) % 256).toNat = 48 + n := by omega
  simp [this]
theorem l01Dec_eq : ∀ (d n : Nat), n < 10 ^ (d + 1) → n ≤ 9223372036854775807 → d < 9223372036854775800 → ∀ k, d < k →
    spec_l01Dec.f k (n : Int) = some ⟨(Lib.decDigits n).toArray⟩ ∧ (Lib.decDigits n).length ≤ d + 1 := by
  intro d
  induction d with
  | zero =>
    intro n h _ _ k hk
    obtain ⟨k, rfl⟩ : ∃ m, k = m + 1 := ⟨k - 1, by omega⟩
    have h10 : n < 10 := by simpa using h
    rw [Lib.decDigits, dif_pos h10]
    simp only [spec_l01Dec.f]
    rw [if_pos (by omega), strDigit n h10]
    exact ⟨rfl, by simp⟩
  | succ d ih =>
    intro n h hn hd k hk
    obtain ⟨k, rfl⟩ : ∃ m, k = m + 1 := ⟨k - 1, by omega⟩
    by_cases h10 : n < 10
    · rw [Lib.decDigits, dif_pos h10]
      simp only [spec_l01Dec.f]
      rw [if_pos (by omega), strDigit n h10]
      exact ⟨rfl, by simp⟩
    · have e1 : wrap64 (Int.tdiv (n : Int) 10) = ((n / 10 : Nat) : Int) := by
        rw [Int.tdiv_eq_ediv_of_nonneg (by omega), w64s (by omega) (by omega)]; omega
      have e2 : Int.tmod (n : Int) 10 = ((n % 10 : Nat) : Int) := by
        rw [Int.tmod_eq_emod_of_nonneg (by omega)]; omega
      obtain ⟨i1, i2⟩ := ih (n / 10) (by rw [Nat.pow_succ] at h; omega) (by omega) (by omega) k (by omega)
      rw [Lib.decDigits, dif_neg h10]
      simp only [spec_l01Dec.f]
      rw [if_neg (by omega), e1, e2, i1]
      simp only [Option.bind_some]
      rw [strDigit (n % 10) (by omega), ba_app, if_pos (by simp [ByteArray.size]; omega)]
      exact ⟨rfl, by simp; omega⟩
theorem l01Number_eq (n : Int) (h0 : -9223372036854775807 ≤ n) (h1 : n ≤ 9223372036854775807) {k : Nat} (hk : 20 < k) :
    spec_l01Number.f k n = some (txt n) ∧ (Lib.itoa n).length ≤ 20 := by
  unfold spec_l01Number.f txt Lib.itoa
  have p19 : (10 : Nat) ^ (18 + 1) = 10000000000000000000 := by decide
  by_cases hn : n < 0
  · obtain ⟨i1, i2⟩ := l01Dec_eq 18 n.natAbs (by omega) (by omega) (by omega) k (by omega)
    have e : ((n.natAbs : Nat) : Int) = -n := by omega
    rw [e] at i1
    rw [if_pos hn, if_pos hn, show wrap64 (-n) = -n by unfold wrap64; omega, i1]
    simp only [Option.bind_some]
    rw [if_pos (by simp [ByteArray.size]; omega)]
    refine ⟨?_, by simp; omega⟩
    rw [show (⟨#[45]⟩ : ByteArray) = ⟨[45].toArray⟩ from rfl, ba_app]; rfl
  · obtain ⟨i1, i2⟩ := l01Dec_eq 18 n.toNat (by omega) (by omega) (by omega) k (by omega)
    have e : ((n.toNat : Nat) : Int) = n := by omega
    rw [e] at i1
    rw [if_neg hn, if_neg hn, i1]
    exact ⟨rfl, by omega⟩
theorem l01Join_go (l : List Int) (by_ : ByteArray) (hl : (l.length : Int) ≤ 1048576) (hw : ∀ x ∈ l, -9223372036854775807 ≤ x ∧ x ≤ 9223372036854775807) (hb : by_.size ≤ 1000) :
    ∀ (d i : Nat) (out : List UInt8) (k : Nat), i + d = l.length → 0 < i → out.length + d * 1100 ≤ 1099511627776 → d + 21 < k →
    spec_l01Join.l0 k l by_ ⟨out.toArray⟩ (i : Int) = some ⟨(out ++ Lib.joinTail by_.data.toList ((l.drop i).map Lib.itoa)).toArray⟩ := by
  intro d
  induction d with
  | zero =>
    intro i out k hi h0 _ hk
    obtain ⟨k, rfl⟩ : ∃ m, k = m + 1 := ⟨k - 1, by omega⟩
    simp only [spec_l01Join.l0]
    rw [if_neg (by omega), List.drop_of_length_le (by omega)]
    simp [Lib.joinTail]
  | succ d ih =>
    intro i out k hi h0 hs hk
    obtain ⟨k, rfl⟩ : ∃ m, k = m + 1 := ⟨k - 1, by omega⟩
    have hlt : i < l.length := by omega
    have hrd : rd l (i : Int) = l[i] := by rw [rd_nat, List.getD_eq_getElem?_getD, List.getElem?_eq_getElem hlt]; rfl
    obtain ⟨b0, b1⟩ := hw l[i] (List.getElem_mem hlt)
    obtain ⟨n1, n2⟩ := l01Number_eq l[i] b0 b1 (k := k) (by omega)
    have hbl : by_.data.toList.length = by_.size := rfl
    have e1 : (⟨out.toArray⟩ : ByteArray) ++ by_ = ⟨(out ++ by_.data.toList).toArray⟩ := by apply ByteArray.ext; rw [ByteArray.data_append]; apply Array.toList_inj.1; rw [Array.toList_append]
    simp only [spec_l01Join.l0]
    rw [if_pos (by omega), if_pos (by omega), if_pos (by simp only [ByteArray.size, ByteArray.data_append, Array.size_append, List.size_toArray, List.length_append] at hb hbl ⊢; omega), if_pos (by omega), hrd, n1]
    simp only [Option.bind_some]
    unfold txt
    rw [e1, ba_app, if_pos (by simp only [ByteArray.size, ByteArray.data_append, Array.size_append, List.size_toArray, List.length_append] at hb hbl ⊢; omega), w64s (by omega) (by omega)]
    have := ih (i + 1) (out ++ by_.data.toList ++ Lib.itoa l[i]) k (by omega) (by omega) (by simp only [List.length_append]; omega) (by omega)
    rw [show ((i : Int) + 1) = ((i + 1 : Nat) : Int) by omega, this, List.drop_eq_getElem_cons hlt, List.map_cons, joinTail_cons]
    simp
theorem l01Join_eq (l : List Int) (by_ : ByteArray) (hl : (l.length : Int) ≤ 1048576) (hw : ∀ x ∈ l, -9223372036854775807 ≤ x ∧ x ≤ 9223372036854775807) (hb : by_.size ≤ 1000) {k : Nat} (hk : l.length + 22 < k) :
    spec_l01Join.f k l by_ = some ⟨(Lib.join (l.map Lib.itoa) by_.data.toList).toArray⟩ := by
  unfold spec_l01Join.f
  obtain ⟨k, rfl⟩ : ∃ m, k = m + 1 := ⟨k - 1, by omega⟩
  cases l with
  | nil => simp [spec_l01Join.l0, Lib.join]
  | cons x r =>
    obtain ⟨b0, b1⟩ := hw x (by simp)
    obtain ⟨n1, n2⟩ := l01Number_eq x b0 b1 (k := k) (by simp at hk; omega)
    have hrd : rd (x :: r) 0 = x := rfl
    simp only [spec_l01Join.l0]
    rw [if_pos (by simp), if_neg (by omega), if_pos (by omega), hrd, n1]
    simp only [Option.bind_some]
    unfold txt
    rw [show (⟨#[]⟩ : ByteArray) = ⟨([] : List UInt8).toArray⟩ from rfl, ba_app, if_pos (by simp [ByteArray.size]; omega), w64s (by omega) (by omega)]
    have := l01Join_go (x :: r) by_ hl hw hb r.length 1 ([] ++ Lib.itoa x) k (by simp; omega) (by omega) (by simp at *; omega) (by simp at hk; omega)
    rw [show ((0 : Int) + 1) = ((1 : Nat) : Int) by omega, this, List.map_cons, Lib.join_cons]
    simp
theorem text_eq (n : Int) (h0 : -9223372036854775808 ≤ n) (h1 : n ≤ 9223372036854775807) : impl_text.f n = some (txt n) := by
  unfold impl_text.f strconv_FormatInt.f txt
  rw [if_pos ⟨⟨h0, h1⟩, rfl⟩]
  rfl
theorem itoa_len (n : Int) (h0 : 0 ≤ n) (h1 : n < 100) : (Lib.itoa n).length ≤ 2 := by
  unfold Lib.itoa
  rw [if_neg (by omega)]
  by_cases h : n.toNat < 10
  · rw [Lib.decDigits_one h]; simp
  · rw [Lib.decDigits_two h (by omega)]; simp
theorem join_len (s : List UInt8) (r : List (List UInt8)) (hr : ∀ x ∈ r, x.length ≤ 21) : (Lib.joinTail s r).length ≤ r.length * (s.length + 21) := by
  induction r with
  | nil => simp [Lib.joinTail]
  | cons x r ih =>
    have := ih (fun y hy => hr y (by simp [hy]))
    have h2 := hr x (by simp)
    rw [joinTail_cons]
    simp only [List.length_append, List.length_cons]
    rw [Nat.add_mul]; omega
theorem join_len' (s : List UInt8) (r : List (List UInt8)) (hr : ∀ x ∈ r, x.length ≤ 21) : (Lib.join r s).length ≤ r.length * (s.length + 21) := by
  cases r with
  | nil => simp [Lib.join]
  | cons x r =>
    have := join_len s r (fun y hy => hr y (by simp [hy]))
    have h2 := hr x (by simp)
    rw [Lib.join_cons]
    simp only [List.length_append, List.length_cons]
    rw [Nat.add_mul]; omega
theorem joined_go (l : List Int) (by_ : ByteArray) (hl : l.length ≤ 1000) (hw : ∀ x ∈ l, impl_text.f x = some (txt x)) (hlen : ∀ x ∈ l, (Lib.itoa x).length ≤ 21) (hb : by_.size ≤ 1000) :
    ∀ (d i : Nat) (k : Nat), i + d = l.length → d < k →
    impl_joined.l0 k by_ ((l.take i).map txt) l (l.length : Int) (i : Int) = some ⟨(Lib.join (l.map Lib.itoa) by_.data.toList).toArray⟩ := by
  intro d
  induction d with
  | zero =>
    intro i k hi hk
    obtain ⟨k, rfl⟩ : ∃ m, k = m + 1 := ⟨k - 1, by omega⟩
    simp only [impl_joined.l0]
    rw [if_neg (by omega), List.take_of_length_le (by omega)]
    unfold strings_Join.f
    have e : ((l.map txt).map (fun x => x.data.toList)) = l.map Lib.itoa := by rw [List.map_map]; rfl
    have hq := join_len' by_.data.toList (l.map Lib.itoa) (by intro x hx; obtain ⟨y, hy, rfl⟩ := List.mem_map.1 hx; exact hlen y hy)
    have hbl : by_.data.toList.length = by_.size := rfl
    rw [List.length_map, hbl] at hq
    have h3 : l.length * (by_.size + 21) ≤ 1000 * 1021 := Nat.mul_le_mul hl (by omega)
    rw [e, if_pos ⟨by simp; omega, by omega⟩]
    rfl
  | succ d ih =>
    intro i k hi hk
    obtain ⟨k, rfl⟩ : ∃ m, k = m + 1 := ⟨k - 1, by omega⟩
    have hlt : i < l.length := by omega
    have hrd : rd l (i : Int) = l[i] := by rw [rd_nat, List.getD_eq_getElem?_getD, List.getElem?_eq_getElem hlt]; rfl
    simp only [impl_joined.l0]
    rw [if_pos (by omega), if_pos (by omega), if_pos (by omega), hrd, hw _ (List.getElem_mem hlt)]
    simp only [Option.bind_some]
    rw [if_pos (by simp; omega), w64s (by omega) (by omega)]
    have := ih (i + 1) k (by omega) (by omega)
    have e : (l.take (i + 1)).map txt = (l.take i).map txt ++ [txt l[i]] := by rw [List.take_succ_eq_append_getElem hlt, List.map_append]; rfl
    rw [show ((i : Int) + 1) = ((i + 1 : Nat) : Int) by omega, ← e]
    exact this
theorem joined_eq (l : List Int) (by_ : ByteArray) (hl : l.length ≤ 1000) (hw : ∀ x ∈ l, impl_text.f x = some (txt x)) (hlen : ∀ x ∈ l, (Lib.itoa x).length ≤ 21) (hb : by_.size ≤ 1000) {k : Nat} (hk : l.length < k) :
    impl_joined.f k by_ l = some ⟨(Lib.join (l.map Lib.itoa) by_.data.toList).toArray⟩ := by
  unfold impl_joined.f
  exact joined_go l by_ hl hw hlen hb l.length 0 k (by omega) hk
theorem join_nil_sep : ∀ l : List (List UInt8), Lib.join l [] = l.flatten
  | [] => rfl
  | x :: r => by
    rw [Lib.join_cons]
    unfold Lib.joinTail
    simp

end Go.Proofs.YtnblfcibgokccaaGreatDoor.LC
