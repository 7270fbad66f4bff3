/- Plain lemmas on lists: copying, comparing, checking and marking them in loops. -/
import Derived.Test.YtnblfcibgokccaaDoorAid
import Derived.Test.YtnblfcibgokccaaDoorPGx0
import Derived.Test.YtnblfcibgokccaaDoorLGABasic
import Derived.Test.YtnblfcibgokccaaDoorPGx0
import Derived.Test.YtnblfcibgokccaaDoorPGx1
namespace Go.Proofs.YtnblfcibgokccaaDoor.LG
open Go.RowKit Go.Proofs.YtnblfcibgokccaaDoor.PG Go.Proofs.YtnblfcibgokccaaDoorW.PrintWords Go.Proofs.YtnblfcibgokccaaDoorW.PrintLast Go.Proofs.YtnblfcibgokccaaDoor.Aid
set_option linter.unusedVariables false
set_option linter.unusedSimpArgs false

theorem fill_step {α : Type} (l : List α) (z x : α) (i : Nat) (hi : i < l.length) (hx : l.getD i z = x) : (l.take i ++ List.replicate (l.length - i) z).set i x = l.take (i + 1) ++ List.replicate (l.length - (i + 1)) z := by
  subst hx
  have e : l.length - i = (l.length - (i + 1)) + 1 := by omega
  rw [e, List.replicate_succ, List.set_append_right _ _ (by simp; omega)]
  have : i - (l.take i).length = 0 := by simp; omega
  have e2 : l.take (i + 1) = l.take i ++ [l.getD i z] := by
    rw [List.take_succ_eq_append_getElem hi]
    simp [List.getD, hi]
  rw [this, List.set_cons_zero, e2, List.append_assoc, List.singleton_append]
theorem rd_nat (l : List Int) (i : Nat) : rd l (i : Int) = l.getD i 0 := by unfold rd; rw [Int.toNat_natCast]
theorem rd_mem (l : List Int) (i : Int) (h0 : 0 ≤ i) (h1 : i < l.length) : rd l i ∈ l := by
  obtain ⟨n, rfl⟩ := Int.eq_ofNat_of_zero_le h0
  rw [rd_nat]
  have : n < l.length := by omega
  simp [List.getD, this]
theorem l01Within_loop (l : List Int) (m a b : Int) (hl : (l.length : Int) ≤ 1048576) (d : Nat) : ∀ (k i : Nat), i ≤ l.length → l.length - i = d → d < k →
    spec_l01Within.l0 k l m a b i = some (decide ((∀ x ∈ l.drop i, a ≤ x ∧ x ≤ b) ∧ (l.length : Int) ≤ m)) := by
  induction d with
  | zero =>
    intro k i hi hd hk
    obtain ⟨k, rfl⟩ := succ_of_lt hk
    obtain rfl : i = l.length := by omega
    simp only [spec_l01Within.l0]
    rw [if_neg (by omega), List.drop_length]
    simp
  | succ d ih =>
    intro k i hi hd hk
    obtain ⟨k, rfl⟩ := succ_of_lt hk
    simp only [spec_l01Within.l0]
    have h1 : i < l.length := by omega
    have e1 : l.getD i 0 = l[i] := by simp [List.getD, h1]
    rw [if_pos (by omega), if_pos (by omega), rd_nat, e1, l01In_eq, w64s (by omega) (by omega), List.drop_eq_getElem_cons h1]
    simp only [Option.bind_some]
    by_cases h : a ≤ l[i] ∧ l[i] ≤ b
    · rw [if_pos (by simp [h])]
      have := ih k (i + 1) (by omega) (by omega) (by omega)
      rw [show ((i : Int) + 1) = ((i + 1 : Nat) : Int) by omega, this]
      congr 1
      apply decide_eq_decide.2
      constructor
      · rintro ⟨h2, h3⟩; exact ⟨List.forall_mem_cons.2 ⟨h, h2⟩, h3⟩
      · rintro ⟨h2, h3⟩; exact ⟨(List.forall_mem_cons.1 h2).2, h3⟩
    · rw [if_neg (by simpa using h)]
      congr 1; symm; rw [decide_eq_false_iff_not]
      rintro ⟨h2, _⟩; exact h (List.forall_mem_cons.1 h2).1
theorem l01Within_eq (l : List Int) (m a b : Int) (hl : (l.length : Int) ≤ 1048576) {k : Nat} (hk : l.length < k) : spec_l01Within.f k l m a b = some (decide ((∀ x ∈ l, a ≤ x ∧ x ≤ b) ∧ (l.length : Int) ≤ m)) := by
  unfold spec_l01Within.f
  simpa using l01Within_loop l m a b hl l.length k 0 (by omega) (by omega) hk
theorem allWithin_eq (l : List Int) (a b : Int) : impl_allWithin.f l a b = some (decide (∀ x ∈ l, a ≤ x ∧ x ≤ b)) := by
  unfold impl_allWithin.f
  congr 1
  rw [Bool.eq_iff_iff]
  simp
end Go.Proofs.YtnblfcibgokccaaDoor.LG
