/- Plain lemmas on reading lattices and patterns. -/
import Derived.Test.YtnblfcibgokccaaDoorAid
import Derived.Test.YtnblfcibgokccaaDoorPGx0
import Derived.Test.YtnblfcibgokccaaDoorLGZoaBytes
import Derived.Test.YtnblfcibgokccaaDoorLGZtRead
import Derived.Test.YtnblfcibgokccaaDoorPGx7
namespace Go.Proofs.YtnblfcibgokccaaDoor.LG
open Go.RowKit Go.Proofs.YtnblfcibgokccaaDoor.PG Go.Proofs.YtnblfcibgokccaaDoorW.PrintWords Go.Proofs.YtnblfcibgokccaaDoorW.PrintLast Go.Proofs.YtnblfcibgokccaaDoor.Aid
set_option linter.unusedVariables false
set_option linter.unusedSimpArgs false

/-- Digits as numbers. -/
def cols (l : List UInt8) : List Int := l.map fun c => (c.toNat : Int) - 48
theorem readDigits_go (w : ByteArray) (hw : w.size ≤ 1048576) : ∀ (d i : Nat) (acc : List Int) (k : Nat), i + d = w.size → acc.length + d ≤ 2000000 → d < k →
    impl_readDigits.l0 k w acc (w.size : Int) (i : Int) = if (∀ c ∈ (LB w).drop i, dig c) then some (acc ++ cols ((LB w).drop i), true) else some ([], false) := by
  intro d
  induction d with
  | zero =>
    intro i acc k hi ha hk
    obtain ⟨k, rfl⟩ : ∃ m, k = m + 1 := ⟨k - 1, by omega⟩
    rw [impl_readDigits.l0, if_neg (by omega), List.drop_of_length_le (by rw [LB_size]; omega : (LB w).length ≤ i)]
    simp [cols]
  | succ d ih =>
    intro i acc k hi ha hk
    obtain ⟨k, rfl⟩ : ∃ m, k = m + 1 := ⟨k - 1, by omega⟩
    have hlt : i < (LB w).length := by rw [LB_size]; omega
    rw [impl_readDigits.l0, if_pos (by omega), if_pos (by omega), if_pos (by omega), bt_at w i hlt, List.drop_eq_getElem_cons hlt]
    have hb := UInt8.toNat_lt ((LB w)[i])
    by_cases hc : dig ((LB w)[i])
    · have hc2 := hc
      unfold dig at hc2
      rw [if_neg (by omega), if_neg (by omega), if_pos (by omega), w64s (by omega) (by omega), show ((i : Int) + 1) = ((i + 1 : Nat) : Int) by omega, ih (i + 1) _ k (by omega) (by simp; omega) (by omega)]
      by_cases hr : ∀ c ∈ (LB w).drop (i + 1), dig c
      · rw [if_pos hr, if_pos (by intro c hx; rcases List.mem_cons.1 hx with rfl | hx; exact hc; exact hr c hx), show ((((LB w)[i]).toNat : Int) - 48) % 256 = (((LB w)[i]).toNat : Int) - 48 by omega, List.append_assoc]
        rfl
      · rw [if_neg hr, if_neg (fun h => hr (fun c hx => h c (List.mem_cons_of_mem _ hx)))]
    · have hn : ¬ ∀ c ∈ (LB w)[i] :: (LB w).drop (i + 1), dig c := fun h => hc (h _ List.mem_cons_self)
      rw [if_neg hn]
      unfold dig at hc
      by_cases h1 : (((LB w)[i]).toNat : Int) < 48
      · rw [if_pos h1]
      · rw [if_neg h1, if_pos (by omega)]
theorem readDigits_eq (w : ByteArray) (hw : w.size ≤ 1048576) {k : Nat} (hk : w.size < k) : impl_readDigits.f k w = if (∀ c ∈ LB w, dig c) then some (cols (LB w), true) else some ([], false) := by
  unfold impl_readDigits.f
  have := readDigits_go w hw w.size 0 [] k (by omega) (by simp; omega) hk
  rw [show ((0 : Nat) : Int) = 0 from rfl] at this
  rw [this, List.drop_zero]
  simp
end Go.Proofs.YtnblfcibgokccaaDoor.LG
