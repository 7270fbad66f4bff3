/- Plain lemmas on lists: copying, comparing, checking and marking them in loops. -/
import Derived.Test.YtnblfcibgokccaaDoorAid
import Derived.Test.YtnblfcibgokccaaDoorPFx0
import Derived.Test.YtnblfcibgokccaaDoorLFABasic
import Derived.Test.YtnblfcibgokccaaDoorPFx0
import Derived.Test.YtnblfcibgokccaaDoorPFx1
namespace Go.Proofs.YtnblfcibgokccaaDoor.LF
open Go.RowKit Go.Proofs.YtnblfcibgokccaaDoor.PF Go.Proofs.YtnblfcibgokccaaDoorW.PrintWords Go.Proofs.YtnblfcibgokccaaDoorW.PrintLast Go.Proofs.YtnblfcibgokccaaDoor.Aid
set_option linter.unusedVariables false
set_option linter.unusedSimpArgs false

theorem fill_step {α : Type} (l : List α) (z x : α) (i : Nat) (hi : i < l.length) (hx : l.getD i z = x) : (l.take i ++ List.replicate (l.length - i) z).set i x = l.take (i + 1) ++ List.replicate (l.length - (i + 1)) z := by
  subst hx
  have e : l.length - i = (l.length - (i + 1)) + 1 := by omega
  rw [e, List.replicate_succ, List.set_append_right _ _ (by simp; omega)]
  have : i - (l.take i).length = 0 := by simp; omega
  have e2 : l.take (i + 1) = l.take i ++ [l.getD i z] := by
    rw [List.take_succ_eq_append_getElem hi]
    simp [List.getD, hi]
  rw [this, List.set_cons_zero, e2, List.append_assoc, List.singleton_append]
theorem rd_nat (l : List Int) (i : Nat) : rd l (i : Int) = l.getD i 0 := by unfold rd; rw [Int.toNat_natCast]
theorem rd_mem (l : List Int) (i : Int) (h0 : 0 ≤ i) (h1 : i < l.length) : rd l i ∈ l := by
  obtain ⟨n, rfl⟩ := Int.eq_ofNat_of_zero_le h0
  rw [rd_nat]
  have : n < l.length := by omega
  simp [List.getD, this]
theorem szInt64S_eq (l : List Int) (a : Int) (ha : 0 ≤ a) (hb : a ≤ 1048576) (hl : l.length ≤ maxLen) : laws_szInt64S.f l a = some (if a < l.length then -1 else a - l.length) := by
  unfold laws_szInt64S.f
  unfold maxLen at hl
  rw [w64 (by omega) (by omega)]
  by_cases h : a < (l.length : Int)
  · rw [if_pos (by omega), if_pos h]
  · rw [if_neg (by omega), if_neg h]
theorem toInt64S_loop (l : List Int) (hl : (l.length : Int) ≤ 1048576) (d : Nat) : ∀ (k i : Nat), i ≤ l.length → l.length - i = d → d < k →
    laws_toInt64S.l0 k l (l.take i ++ List.replicate (l.length - i) 0) i = some l := by
  induction d with
  | zero =>
    intro k i hi hd hk
    obtain ⟨k, rfl⟩ := succ_of_lt hk
    obtain rfl : i = l.length := by omega
    simp only [laws_toInt64S.l0]
    rw [if_neg (by omega)]
    simp
  | succ d ih =>
    intro k i hi hd hk
    obtain ⟨k, rfl⟩ := succ_of_lt hk
    simp only [laws_toInt64S.l0]
    have hlen : (l.take i ++ List.replicate (l.length - i) (0 : Int)).length = l.length := by simp; omega
    rw [if_pos (by omega), if_pos (by omega), hlen, if_pos (by omega), Int.toNat_natCast, fill_step l 0 _ i (by omega) (rd_nat l i).symm, w64s (by omega) (by omega)]
    exact ih k (i + 1) (by omega) (by omega) (by omega)
theorem toInt64S_eq (l : List Int) (hl : (l.length : Int) ≤ 1048576) {k : Nat} (hk : l.length < k) : laws_toInt64S.f k l = some l := by
  unfold laws_toInt64S.f
  rw [if_pos (by omega), Int.toNat_natCast, if_pos (by omega)]
  have := toInt64S_loop l hl l.length k 0 (by omega) (by omega) hk
  simpa using this
theorem eqInt64S_loop (l m : List Int) (hlm : l.length = m.length) (hl : (l.length : Int) ≤ 1048576) (d : Nat) : ∀ (k i : Nat), i ≤ l.length → l.length - i = d → d < k →
    laws_eqInt64S.l0 k l m i = some (decide (l.drop i = m.drop i)) := by
  induction d with
  | zero =>
    intro k i hi hd hk
    obtain ⟨k, rfl⟩ := succ_of_lt hk
    obtain rfl : i = l.length := by omega
    simp only [laws_eqInt64S.l0]
    rw [if_neg (by omega), List.drop_length, hlm, List.drop_length]
    simp
  | succ d ih =>
    intro k i hi hd hk
    obtain ⟨k, rfl⟩ := succ_of_lt hk
    simp only [laws_eqInt64S.l0]
    have h1 : i < l.length := by omega
    have h2 : i < m.length := by omega
    rw [if_pos (by omega), if_pos (by omega), if_pos (by omega), w64s (by omega) (by omega), rd_nat, rd_nat, List.drop_eq_getElem_cons h1, List.drop_eq_getElem_cons h2]
    have e1 : l.getD i 0 = l[i] := by simp [List.getD, h1]
    have e2 : m.getD i 0 = m[i] := by simp [List.getD, h2]
    rw [e1, e2]
    by_cases h : l[i] = m[i]
    · rw [if_pos h]
      have := ih k (i + 1) (by omega) (by omega) (by omega)
      rw [show ((i : Int) + 1) = ((i + 1 : Nat) : Int) by omega, this]
      congr 1
      apply decide_eq_decide.2
      rw [h]
      exact ⟨fun e => by rw [e], fun e => (List.cons.inj e).2⟩
    · rw [if_neg h]
      congr 1; symm; rw [decide_eq_false_iff_not]; intro e; exact h (List.cons.inj e).1
theorem eqInt64S_eq (l m : List Int) (hl : (l.length : Int) ≤ 1048576) {k : Nat} (hk : l.length < k) : laws_eqInt64S.f k l m = some (decide (l = m)) := by
  unfold laws_eqInt64S.f
  by_cases h : (l.length : Int) = m.length
  · rw [if_pos h]
    simpa using eqInt64S_loop l m (by omega) hl l.length k 0 (by omega) (by omega) hk
  · rw [if_neg h]
    congr 1; symm; rw [decide_eq_false_iff_not]; rintro rfl; exact h rfl
theorem l01Within_loop (l : List Int) (m a b : Int) (hl : (l.length : Int) ≤ 1048576) (d : Nat) : ∀ (k i : Nat), i ≤ l.length → l.length - i = d → d < k →
    spec_l01Within.l0 k l m a b i = some (decide ((∀ x ∈ l.drop i, a ≤ x ∧ x ≤ b) ∧ (l.length : Int) ≤ m)) := by
  induction d with
  | zero =>
    intro k i hi hd hk
    obtain ⟨k, rfl⟩ := succ_of_lt hk
    obtain rfl : i = l.length := by omega
    simp only [spec_l01Within.l0]
    rw [if_neg (by omega), List.drop_length]
    simp
  | succ d ih =>
    intro k i hi hd hk
    obtain ⟨k, rfl⟩ := succ_of_lt hk
    simp only [spec_l01Within.l0]
    have h1 : i < l.length := by omega
    have e1 : l.getD i 0 = l[i] := by simp [List.getD, h1]
    rw [if_pos (by omega), if_pos (by omega), rd_nat, e1, l01In_eq, w64s (by omega) (by omega), List.drop_eq_getElem_cons h1]
    simp only [Option.bind_some]
    by_cases h : a ≤ l[i] ∧ l[i] ≤ b
    · rw [if_pos (by simp [h])]
      have := ih k (i + 1) (by omega) (by omega) (by omega)
      rw [show ((i : Int) + 1) = ((i + 1 : Nat) : Int) by omega, this]
      congr 1
      apply decide_eq_decide.2
      constructor
      · rintro ⟨h2, h3⟩; exact ⟨List.forall_mem_cons.2 ⟨h, h2⟩, h3⟩
      · rintro ⟨h2, h3⟩; exact ⟨(List.forall_mem_cons.1 h2).2, h3⟩
    · rw [if_neg (by simpa using h)]
      congr 1; symm; rw [decide_eq_false_iff_not]
      rintro ⟨h2, _⟩; exact h (List.forall_mem_cons.1 h2).1
theorem l01Within_eq (l : List Int) (m a b : Int) (hl : (l.length : Int) ≤ 1048576) {k : Nat} (hk : l.length < k) : spec_l01Within.f k l m a b = some (decide ((∀ x ∈ l, a ≤ x ∧ x ≤ b) ∧ (l.length : Int) ≤ m)) := by
  unfold spec_l01Within.f
  simpa using l01Within_loop l m a b hl l.length k 0 (by omega) (by omega) hk
theorem allWithin_eq (l : List Int) (a b : Int) : impl_allWithin.f l a b = some (decide (∀ x ∈ l, a ≤ x ∧ x ≤ b)) := by
  unfold impl_allWithin.f
  congr 1
  rw [Bool.eq_iff_iff]
  simp
end Go.Proofs.YtnblfcibgokccaaDoor.LF
