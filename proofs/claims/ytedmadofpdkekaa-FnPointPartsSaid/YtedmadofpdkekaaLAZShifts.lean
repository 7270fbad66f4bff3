import Derived.Test.YtedmadofpdkekaaAid
import Derived.Test.YtedmadofpdkekaaPAx0
import Derived.Test.YtedmadofpdkekaaLAABasic
import Derived.Test.YtedmadofpdkekaaLAWIsgroup
import Derived.Test.YtedmadofpdkekaaPAx0
import Derived.Test.YtedmadofpdkekaaPAx12
import Derived.Test.YtedmadofpdkekaaPAx15
import Derived.Test.YtedmadofpdkekaaPAx17
import Derived.Test.YtedmadofpdkekaaPAx18
import Derived.Test.YtedmadofpdkekaaPAx6
namespace Go.Proofs.Ytedmadofpdkekaa.LA
open Go.RowKit Go.Proofs.Ytedmadofpdkekaa.PA Go.Proofs.YtedmadofpdkekaaW.PrintWords Go.Proofs.YtedmadofpdkekaaW.PrintLast Go.Proofs.Ytedmadofpdkekaa.Aid
set_option linter.unusedVariables false
set_option linter.unusedSimpArgs false
theorem shifts_loop (xs : List S55) (hl : (xs.length : Int) ≤ 1048576) (d : Nat) : ∀ (i : Nat) (x : List S53), i ≤ xs.length → xs.length - i = d → x.length ≤ i →
    ∃ r : List S53, r.length ≤ xs.length ∧ Ev (fun k => spec_l06Shifts.l0 k xs x i) r ∧ Ev (fun k => impl_shiftsOf.l0 k x xs (xs.length : Int) i) r := by
  induction d with
  | zero =>
    intro i x hi hd hx
    refine ⟨x, by omega, Ev.one (fun k => ?_), Ev.one (fun k => ?_)⟩
    · simp only [spec_l06Shifts.l0]; rw [if_neg (by omega)]
    · simp only [impl_shiftsOf.l0]; rw [if_neg (by omega)]
  | succ d ih =>
    intro i x hi hd hx
    have h1 : i < xs.length := by omega
    have hw : wrap64 ((i : Int) + 1) = ((i + 1 : Nat) : Int) := by rw [w64s (by omega) (by omega)]; omega
    have hc : x.length < 8796093022208 := by omega
    by_cases e : ((qr xs (i : Int)).f0.f0 == 1 && ((qr xs (i : Int)).f0.f1 == 0 && ((qr xs (i : Int)).f0.f2 == 0 && (qr xs (i : Int)).f0.f3 == 1))) = true
    · obtain ⟨r, hr, r1, r2⟩ := ih (i + 1) (x ++ [⟨(qr xs (i : Int)).f1.f0, (qr xs (i : Int)).f1.f1⟩]) (by omega) (by omega) (by simp; omega)
      refine ⟨r, hr, Ev.step (fun k => ?_) r1, Ev.step (fun k => ?_) r2⟩
      · simp only [spec_l06Shifts.l0, spec_l02Unit.f, Option.bind_some]
        rw [if_pos (by omega), if_pos (by omega), if_pos e, if_pos hc, hw]
      · simp only [impl_shiftsOf.l0, impl_unit.f, Option.bind_some]
        rw [if_pos (by omega), if_pos (by omega), if_pos (by omega), if_pos e, if_pos hc, hw]
    · obtain ⟨r, hr, r1, r2⟩ := ih (i + 1) x (by omega) (by omega) (by omega)
      refine ⟨r, hr, Ev.step (fun k => ?_) r1, Ev.step (fun k => ?_) r2⟩
      · simp only [spec_l06Shifts.l0, spec_l02Unit.f, Option.bind_some]
        rw [if_pos (by omega), if_pos (by omega), if_neg e, hw]
      · simp only [impl_shiftsOf.l0, impl_unit.f, Option.bind_some]
        rw [if_pos (by omega), if_pos (by omega), if_pos (by omega), if_neg e, hw]
theorem both_ShiftsOf (fr a b c : Int) (xs : List S55) (hl : (xs.length : Int) ≤ 1048576) : ∃ r : List S53 × Int, (r.1.length : Int) ≤ 1048576 ∧ Ev (fun k => spec_ShiftsOf.f k fr a b c xs) r ∧ Ev (fun k => impl_ShiftsOf.f k fr a b c xs) r := by
  obtain ⟨r, ⟨K1, r1⟩, ⟨K2, r2⟩, r3⟩ := groupCode_both fr a b c xs hl
  have q := fun i => spec_l06Code_eq fr a b c i
  have g1 : ∀ k, K1 ≤ k → spec_IsGroup.f k fr a b c xs = some r := fun k hk => r1 k hk
  have hi : ∀ k, K2 ≤ k → impl_groupCode.f k fr a b c [xs] = some (if FL fr a b c then (if r = true then 0 else 2) else 1) := fun k hk => r2 k hk
  by_cases e : r = true
  · obtain ⟨h, hg, hs, hn⟩ := r3 e
    obtain ⟨l, hl', ⟨K3, n1⟩, ⟨K4, n2⟩⟩ := shifts_loop xs hl xs.length 0 [] (by omega) rfl (by simp)
    refine ⟨(l, 0), by show (l.length : Int) ≤ 1048576; omega, ⟨K1 + K3, fun k hk => ?_⟩, ⟨K2 + K4, fun k hk => ?_⟩⟩
    · have g : spec_l06Shifts.l0 k xs [] ((0 : Nat) : Int) = some l := n1 k (by omega)
      show spec_ShiftsOf.f k fr a b c xs = _
      unfold spec_ShiftsOf.f spec_l06Shifts.f
      rw [g1 k (by omega), Option.bind_some, q, if_pos h, if_pos e, Option.bind_some, if_pos rfl]
      show ((spec_l06Shifts.l0 k xs [] ((0 : Nat) : Int)).bind _) = _
      rw [g]; rfl
    · have g : impl_shiftsOf.l0 k [] xs (xs.length : Int) ((0 : Nat) : Int) = some l := n2 k (by omega)
      show impl_ShiftsOf.f k fr a b c xs = _
      unfold impl_ShiftsOf.f impl_shiftsOf.f
      rw [hi k (by omega), if_pos h, if_pos e, Option.bind_some, if_pos rfl]
      show ((impl_shiftsOf.l0 k [] xs (xs.length : Int) ((0 : Nat) : Int)).bind _) = _
      rw [g]; rfl
  · have hne : (if FL fr a b c then (if r = true then 0 else 2) else 1 : Int) ≠ 0 := by
      by_cases h : FL fr a b c
      · rw [if_pos h, if_neg e]; decide
      · rw [if_neg h]; decide
    refine ⟨([], if FL fr a b c then (if r = true then 0 else 2) else 1), by show ((([] : List S53).length : Nat) : Int) ≤ 1048576; decide, ⟨K1, fun k hk => ?_⟩, ⟨K2, fun k hk => ?_⟩⟩
    · show spec_ShiftsOf.f k fr a b c xs = _
      unfold spec_ShiftsOf.f
      rw [g1 k hk, Option.bind_some, q, Option.bind_some, if_neg hne]
    · show impl_ShiftsOf.f k fr a b c xs = _
      unfold impl_ShiftsOf.f
      rw [hi k hk, Option.bind_some, if_neg hne]
end Go.Proofs.Ytedmadofpdkekaa.LA
