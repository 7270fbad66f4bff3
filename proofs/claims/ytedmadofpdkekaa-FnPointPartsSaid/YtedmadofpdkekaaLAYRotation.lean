import Derived.Test.YtedmadofpdkekaaAid
import Derived.Test.YtedmadofpdkekaaPAx0
import Derived.Test.YtedmadofpdkekaaLAABasic
import Derived.Test.YtedmadofpdkekaaLAPPoints
import Derived.Test.YtedmadofpdkekaaLAUOrder
import Derived.Test.YtedmadofpdkekaaLAVGroup
import Derived.Test.YtedmadofpdkekaaLAWIsgroup
import Derived.Test.YtedmadofpdkekaaPAx0
import Derived.Test.YtedmadofpdkekaaPAx15
import Derived.Test.YtedmadofpdkekaaPAx17
import Derived.Test.YtedmadofpdkekaaPAx18
import Derived.Test.YtedmadofpdkekaaPAx19
namespace Go.Proofs.Ytedmadofpdkekaa.LA
open Go.RowKit Go.Proofs.Ytedmadofpdkekaa.PA Go.Proofs.YtedmadofpdkekaaW.PrintWords Go.Proofs.YtedmadofpdkekaaW.PrintLast Go.Proofs.Ytedmadofpdkekaa.Aid
set_option linter.unusedVariables false
set_option linter.unusedSimpArgs false
def ordM (m : Int × Int × Int × Int) : Int := (spec_l02Order.f 40 m.1 m.2.1 m.2.2.1 m.2.2.2).getD 0
theorem pm_ord0 (k : Nat) : ∀ m ∈ pmL 0, spec_l02Order.f (k + 40) m.1 m.2.1 m.2.2.1 m.2.2.2 = some (ordM m) ∧ impl_Mat_order.f (k + 40) m.1 m.2.1 m.2.2.1 m.2.2.2 = some (ordM m) := by
  intro m hm
  simp only [pmL, if_true, List.mem_cons, List.not_mem_nil, or_false] at hm
  rcases hm with rfl | rfl | rfl | rfl | rfl | rfl | rfl | rfl <;> exact ⟨by kernel_rfl, by kernel_rfl⟩
theorem pm_ord1 (k : Nat) : ∀ m ∈ pmL 1, spec_l02Order.f (k + 40) m.1 m.2.1 m.2.2.1 m.2.2.2 = some (ordM m) ∧ impl_Mat_order.f (k + 40) m.1 m.2.1 m.2.2.1 m.2.2.2 = some (ordM m) := by
  intro m hm
  simp only [pmL, show ¬ (1 : Int) = 0 by decide, if_false, List.mem_cons, List.not_mem_nil, or_false] at hm
  rcases hm with rfl | rfl | rfl | rfl | rfl | rfl | rfl | rfl | rfl | rfl | rfl | rfl <;> exact ⟨by kernel_rfl, by kernel_rfl⟩
theorem pm_ord {fr : Int} (hf : 0 ≤ fr ∧ fr ≤ 1) {m0 m1 m2 m3 : Int} (h : (m0, m1, m2, m3) ∈ pmL fr) (k : Nat) (hk : 40 ≤ k) : spec_l02Order.f k m0 m1 m2 m3 = some (ordM (m0, m1, m2, m3)) ∧ impl_Mat_order.f k m0 m1 m2 m3 = some (ordM (m0, m1, m2, m3)) := by
  obtain ⟨j, rfl⟩ : ∃ j, k = j + 40 := ⟨k - 40, by omega⟩
  rcases fr01 hf with rfl | rfl
  · exact pm_ord0 j _ h
  · exact pm_ord1 j _ h
theorem det_both {fr a b c : Int} (h : FL fr a b c) {m : S55} (g : Good fr a b c m) : spec_l02Det.f m.f0.f0 m.f0.f1 m.f0.f2 m.f0.f3 = some (m.f0.f0 * m.f0.f3 - m.f0.f1 * m.f0.f2) ∧ impl_Mat_det.f m.f0.f0 m.f0.f1 m.f0.f2 m.f0.f3 = some (m.f0.f0 * m.f0.f3 - m.f0.f1 * m.f0.f2) := by
  have hi := ((mem_pm h.1).1 g.1.1).1.1
  constructor
  · unfold spec_l02Det.f; rw [det_w hi]
  · unfold impl_Mat_det.f; rw [det_w hi]
theorem rot_loop {fr a b c : Int} (h : FL fr a b c) (xs : List S55) (hl : xs.length ≤ 768) (hg : ∀ j (hj : j < xs.length), Good fr a b c xs[j]) (d : Nat) : ∀ (i : Nat) (n : Int), i ≤ xs.length → xs.length - i = d →
    ∃ r, Ev (fun k => spec_RotationOrder.l0 k xs n i) (r, 0) ∧ Ev (fun k => impl_rotationOrder.l0 k n xs (xs.length : Int) i) r := by
  induction d with
  | zero =>
    intro i n hi hd
    refine ⟨n, Ev.one (fun k => ?_), Ev.one (fun k => ?_)⟩
    · simp only [spec_RotationOrder.l0]; rw [if_neg (by omega)]
    · simp only [impl_rotationOrder.l0]; rw [if_neg (by omega)]
  | succ d ih =>
    intro i n hi hd
    have h1 : i < xs.length := by omega
    have hw : wrap64 ((i : Int) + 1) = ((i + 1 : Nat) : Int) := by rw [w64s (by omega) (by omega)]; omega
    obtain ⟨d1, d2⟩ := det_both h (hg i h1)
    have ho := fun k hk => pm_ord h.1 (hg i h1).1.1 k hk
    by_cases e : xs[i].f0.f0 * xs[i].f0.f3 - xs[i].f0.f1 * xs[i].f0.f2 = 1
    · obtain ⟨r, ⟨K1, r1⟩, ⟨K2, r2⟩⟩ := ih (i + 1) (mx n (ordM (xs[i].f0.f0, xs[i].f0.f1, xs[i].f0.f2, xs[i].f0.f3))) (by omega) (by omega)
      refine ⟨r, ⟨K1 + 41, fun k hk => ?_⟩, ⟨K2 + 41, fun k hk => ?_⟩⟩
      · obtain ⟨k, rfl⟩ : ∃ m, k = m + 1 := ⟨k - 1, by omega⟩
        simp only [spec_RotationOrder.l0]
        rw [if_pos (by omega), if_pos (by omega), rd_mo _ _ h1, d1, Option.bind_some, if_pos e, (ho k (by omega)).1, Option.bind_some, hw]; exact r1 k (by omega)
      · obtain ⟨k, rfl⟩ : ∃ m, k = m + 1 := ⟨k - 1, by omega⟩
        simp only [impl_rotationOrder.l0]
        rw [if_pos (by omega), if_pos (by omega), if_pos (by omega), rd_mo _ _ h1, d2, Option.bind_some, if_pos e, (ho k (by omega)).2, Option.bind_some, hw]; exact r2 k (by omega)
    · obtain ⟨r, r1, r2⟩ := ih (i + 1) n (by omega) (by omega)
      refine ⟨r, Ev.step (fun k => ?_) r1, Ev.step (fun k => ?_) r2⟩
      · simp only [spec_RotationOrder.l0]
        rw [if_pos (by omega), if_pos (by omega), rd_mo _ _ h1, d1, Option.bind_some, if_neg e, hw]
      · simp only [impl_rotationOrder.l0]
        rw [if_pos (by omega), if_pos (by omega), if_pos (by omega), rd_mo _ _ h1, d2, Option.bind_some, if_neg e, hw]
theorem both_RotationOrder (fr a b c : Int) (xs : List S55) (hl : (xs.length : Int) ≤ 1048576) : ∃ r, Ev (fun k => spec_RotationOrder.f k fr a b c xs) r ∧ Ev (fun k => impl_RotationOrder.f k fr a b c xs) r := by
  obtain ⟨r, ⟨K1, r1⟩, ⟨K2, r2⟩, r3⟩ := groupCode_both fr a b c xs hl
  have q := fun i => spec_l06Code_eq fr a b c i
  have hc : ∀ k, K1 ≤ k → spec_l07Code.f k fr a b c xs true = some (if FL fr a b c then (if r = true then 0 else 2) else 1) := fun k hk => by
    have g : spec_IsGroup.f k fr a b c xs = some r := r1 k hk
    unfold spec_l07Code.f
    rw [if_pos rfl, g, Option.bind_some, q, Option.bind_some]
  have hi : ∀ k, K2 ≤ k → impl_groupCode.f k fr a b c [xs] = some (if FL fr a b c then (if r = true then 0 else 2) else 1) := fun k hk => r2 k hk
  by_cases e : r = true
  · obtain ⟨h, hg, hs, hn⟩ := r3 e
    obtain ⟨n, ⟨K3, n1⟩, ⟨K4, n2⟩⟩ := rot_loop h xs hn hg xs.length 0 1 (by omega) rfl
    refine ⟨(n, 0), ⟨K1 + K3, fun k hk => ?_⟩, ⟨K2 + K4, fun k hk => ?_⟩⟩
    · have g : spec_RotationOrder.l0 k xs 1 ((0 : Nat) : Int) = some (n, 0) := n1 k (by omega)
      show spec_RotationOrder.f k fr a b c xs = _
      unfold spec_RotationOrder.f
      rw [hc k (by omega), if_pos h, if_pos e, Option.bind_some, if_pos rfl]; exact g
    · have g : impl_rotationOrder.l0 k 1 xs (xs.length : Int) ((0 : Nat) : Int) = some n := n2 k (by omega)
      show impl_RotationOrder.f k fr a b c xs = _
      unfold impl_RotationOrder.f impl_rotationOrder.f
      rw [hi k (by omega), if_pos h, if_pos e, Option.bind_some, if_pos rfl]
      show ((impl_rotationOrder.l0 k 1 xs (xs.length : Int) ((0 : Nat) : Int)).bind _) = _
      rw [g]; rfl
  · have hne : (if FL fr a b c then (if r = true then 0 else 2) else 1 : Int) ≠ 0 := by
      by_cases h : FL fr a b c
      · rw [if_pos h, if_neg e]; decide
      · rw [if_neg h]; decide
    refine ⟨(0, if FL fr a b c then (if r = true then 0 else 2) else 1), ⟨K1, fun k hk => ?_⟩, ⟨K2, fun k hk => ?_⟩⟩
    · show spec_RotationOrder.f k fr a b c xs = _
      unfold spec_RotationOrder.f
      rw [hc k hk, Option.bind_some, if_neg hne]
    · show impl_RotationOrder.f k fr a b c xs = _
      unfold impl_RotationOrder.f
      rw [hi k hk, Option.bind_some, if_neg hne]
end Go.Proofs.Ytedmadofpdkekaa.LA
