/- Walks written by program: each Go function that the law reaches comes to the plain function beside it. -/
import Derived.Test.YtdodghjnlekgeaaPAx0
import Derived.Test.YtdodghjnlekgeaaPAx7
import Derived.Test.YtdodghjnlekgeaaPAx11
namespace Go.Proofs.Ytdodghjnlekgeaa.PA
open Go.RowKit Go.Proofs.YtdodghjnlekgeaaW.PrintWords Go.Proofs.YtdodghjnlekgeaaW.PrintLast Go.Proofs.YtdodghjnlekgeaaW.PrintMore
attribute [local go_sem] max2_int min2_int max_two min_two max_three min_three max_four min_four   -- for this text's walks alone
set_option linter.unusedVariables false
set_option linter.unusedSimpArgs false

/-! ### laws_heldMotionS: function 9 -/
def laws_heldMotionS.l0 : Nat → List (S41) → Int → Int → Option (Int)
 | 0, _, _, _ => none
 | k + 1, x0, x1, x5 => if x5 < (x0.length : Int) then (if 0 ≤ x5 then (if ((rd_T41 x0 x5).f0.f0) = x1 then (if ((rd_T41 x0 x5).f0.f1) = (wrap64 (x1 + 1)) then (if ((rd_T41 x0 x5).f0.f2) = (wrap64 ((wrap64 (x1 + 1)) + 1)) then (if ((rd_T41 x0 x5).f0.f3) = (wrap64 ((wrap64 ((wrap64 (x1 + 1)) + 1)) + 1)) then (if ((rd_T41 x0 x5).f1.f0) = (wrap64 ((wrap64 ((wrap64 ((wrap64 (x1 + 1)) + 1)) + 1)) + 1)) then (if ((rd_T41 x0 x5).f1.f1) = (wrap64 ((wrap64 ((wrap64 ((wrap64 ((wrap64 (x1 + 1)) + 1)) + 1)) + 1)) + 1)) then (laws_heldMotionS.l0 k x0 (wrap64 ((wrap64 ((wrap64 ((wrap64 ((wrap64 ((wrap64 (x1 + 1)) + 1)) + 1)) + 1)) + 1)) + 1)) (wrap64 (x5 + 1))) else (some (-1))) else (some (-1))) else (some (-1))) else (some (-1))) else (some (-1))) else (some (-1))) else (none)) else (some x1)
def laws_heldMotionS.f (k : Nat) (l0 : List (S41)) (a1 : Int) : Option (Int) := laws_heldMotionS.l0 k l0 a1 0
set_option maxHeartbeats 8000000 in
set_option maxRecDepth 100000 in
theorem laws_heldMotionS.calls (k : Nat) (A0 : Option Addr) (c0 : Nat) (l0 : List (S41)) (a1 : Int) (r : Int) (w : World) (hr0 : Kd.C k41 w A0 l0.length l0) (hc0 : l0.length ≤ c0) (h : laws_heldMotionS.f k l0 a1 = some r) :
  Calls Try.prog 9 #[.slice A0 l0.length c0, .int .i64 a1] w fun e w' => e = .returned (.int .i64 r) ∧ Drawn0 w w' := by
 have HR0 := Aside0.mk hr0
 have HC0 := Aside0.mk hc0
 clear hr0 hc0
 have H : (laws_heldMotionS.l0 k l0 a1 0) = some r := h
 clear h
 have H' := Aside0.mk H
 clear H
 go_enter Try.func9, Try.ntmps9
 go_wp2
 go_loopg [1, 5] k (fun kq v1 v5 w' => ∃ (x1_1 : Int) (x5_1 : Int), v1 = .int .i64 x1_1 ∧ v5 = .int .i64 x5_1 ∧ Aside0 (laws_heldMotionS.l0 kq l0 x1_1 x5_1 = some r) ∧ Aside0 (kq ≤ k) ∧ Drawn0 w w')
 case atStart => exact ⟨(a1), (0), (by first | rfl | (simp; done) | (simp [*]; done)), (by first | rfl | (simp; done) | (simp [*]; done)), H', ⟨Nat.le_refl _⟩, by repeat (first | exact Drawn0.refl _ | apply Drawn0.step)⟩
 case round =>
  clear H'
  try clear p2
  obtain ⟨x1_1, x5_1, rfl, rfl, HA, HK1, ⟨m1, rfl⟩⟩ := hrel
  cases gk with
  | zero => exact absurd HA.out (by simp [laws_heldMotionS.l0])
  | succ k1 =>
   have H := HA.out
   clear HA
   simp only [laws_heldMotionS.l0] at H
   by_cases c3 : x5_1 < (l0.length : Int)
   rw [if_pos c3] at H
   have c3b0 := decide_eq_true c3
   clear c3
   by_cases c4 : 0 ≤ x5_1
   rw [if_pos c4] at H
   have c4b0 := decide_eq_true c4
   clear c4
   by_cases c5 : ((rd_T41 l0 x5_1).f0.f0) = x1_1
   rw [if_pos c5] at H
   have c5b0 : (((rd_T41 l0 x5_1).f0.f0) == x1_1) = true := beq_iff_eq.mpr c5
   have c5b1 : (((rd_T41 l0 x5_1).f0.f0) != x1_1) = false := bne_eq_false_iff_eq.mpr c5
   clear c5
   by_cases c6 : ((rd_T41 l0 x5_1).f0.f1) = (wrap64 (x1_1 + 1))
   rw [if_pos c6] at H
   have c6b0 : (((rd_T41 l0 x5_1).f0.f1) == (wrap64 (x1_1 + 1))) = true := beq_iff_eq.mpr c6
   have c6b1 : (((rd_T41 l0 x5_1).f0.f1) != (wrap64 (x1_1 + 1))) = false := bne_eq_false_iff_eq.mpr c6
   clear c6
   by_cases c7 : ((rd_T41 l0 x5_1).f0.f2) = (wrap64 ((wrap64 (x1_1 + 1)) + 1))
   rw [if_pos c7] at H
   have c7b0 : (((rd_T41 l0 x5_1).f0.f2) == (wrap64 ((wrap64 (x1_1 + 1)) + 1))) = true := beq_iff_eq.mpr c7
   have c7b1 : (((rd_T41 l0 x5_1).f0.f2) != (wrap64 ((wrap64 (x1_1 + 1)) + 1))) = false := bne_eq_false_iff_eq.mpr c7
   clear c7
   by_cases c8 : ((rd_T41 l0 x5_1).f0.f3) = (wrap64 ((wrap64 ((wrap64 (x1_1 + 1)) + 1)) + 1))
   rw [if_pos c8] at H
   have c8b0 : (((rd_T41 l0 x5_1).f0.f3) == (wrap64 ((wrap64 ((wrap64 (x1_1 + 1)) + 1)) + 1))) = true := beq_iff_eq.mpr c8
   have c8b1 : (((rd_T41 l0 x5_1).f0.f3) != (wrap64 ((wrap64 ((wrap64 (x1_1 + 1)) + 1)) + 1))) = false := bne_eq_false_iff_eq.mpr c8
   clear c8
   by_cases c9 : ((rd_T41 l0 x5_1).f1.f0) = (wrap64 ((wrap64 ((wrap64 ((wrap64 (x1_1 + 1)) + 1)) + 1)) + 1))
   rw [if_pos c9] at H
   have c9b0 : (((rd_T41 l0 x5_1).f1.f0) == (wrap64 ((wrap64 ((wrap64 ((wrap64 (x1_1 + 1)) + 1)) + 1)) + 1))) = true := beq_iff_eq.mpr c9
   have c9b1 : (((rd_T41 l0 x5_1).f1.f0) != (wrap64 ((wrap64 ((wrap64 ((wrap64 (x1_1 + 1)) + 1)) + 1)) + 1))) = false := bne_eq_false_iff_eq.mpr c9
   clear c9
   by_cases c10 : ((rd_T41 l0 x5_1).f1.f1) = (wrap64 ((wrap64 ((wrap64 ((wrap64 ((wrap64 (x1_1 + 1)) + 1)) + 1)) + 1)) + 1))
   rw [if_pos c10] at H
   have c10b0 : (((rd_T41 l0 x5_1).f1.f1) == (wrap64 ((wrap64 ((wrap64 ((wrap64 ((wrap64 (x1_1 + 1)) + 1)) + 1)) + 1)) + 1))) = true := beq_iff_eq.mpr c10
   have c10b1 : (((rd_T41 l0 x5_1).f1.f1) != (wrap64 ((wrap64 ((wrap64 ((wrap64 ((wrap64 (x1_1 + 1)) + 1)) + 1)) + 1)) + 1))) = false := bne_eq_false_iff_eq.mpr c10
   clear c10
   have H' := Aside0.mk H
   clear H
   rotate_left
   rw [if_neg c10] at H
   have c10b0 : (((rd_T41 l0 x5_1).f1.f1) == (wrap64 ((wrap64 ((wrap64 ((wrap64 ((wrap64 (x1_1 + 1)) + 1)) + 1)) + 1)) + 1))) = false := beq_eq_false_iff_ne.mpr c10
   have c10b1 : (((rd_T41 l0 x5_1).f1.f1) != (wrap64 ((wrap64 ((wrap64 ((wrap64 ((wrap64 (x1_1 + 1)) + 1)) + 1)) + 1)) + 1))) = true := bne_iff_ne.mpr c10
   obtain rfl := Option.some.inj H
   rotate_left
   rw [if_neg c9] at H
   have c9b0 : (((rd_T41 l0 x5_1).f1.f0) == (wrap64 ((wrap64 ((wrap64 ((wrap64 (x1_1 + 1)) + 1)) + 1)) + 1))) = false := beq_eq_false_iff_ne.mpr c9
   have c9b1 : (((rd_T41 l0 x5_1).f1.f0) != (wrap64 ((wrap64 ((wrap64 ((wrap64 (x1_1 + 1)) + 1)) + 1)) + 1))) = true := bne_iff_ne.mpr c9
   obtain rfl := Option.some.inj H
   rotate_left
   rw [if_neg c8] at H
   have c8b0 : (((rd_T41 l0 x5_1).f0.f3) == (wrap64 ((wrap64 ((wrap64 (x1_1 + 1)) + 1)) + 1))) = false := beq_eq_false_iff_ne.mpr c8
   have c8b1 : (((rd_T41 l0 x5_1).f0.f3) != (wrap64 ((wrap64 ((wrap64 (x1_1 + 1)) + 1)) + 1))) = true := bne_iff_ne.mpr c8
   obtain rfl := Option.some.inj H
   rotate_left
   rw [if_neg c7] at H
   have c7b0 : (((rd_T41 l0 x5_1).f0.f2) == (wrap64 ((wrap64 (x1_1 + 1)) + 1))) = false := beq_eq_false_iff_ne.mpr c7
   have c7b1 : (((rd_T41 l0 x5_1).f0.f2) != (wrap64 ((wrap64 (x1_1 + 1)) + 1))) = true := bne_iff_ne.mpr c7
   obtain rfl := Option.some.inj H
   rotate_left
   rw [if_neg c6] at H
   have c6b0 : (((rd_T41 l0 x5_1).f0.f1) == (wrap64 (x1_1 + 1))) = false := beq_eq_false_iff_ne.mpr c6
   have c6b1 : (((rd_T41 l0 x5_1).f0.f1) != (wrap64 (x1_1 + 1))) = true := bne_iff_ne.mpr c6
   obtain rfl := Option.some.inj H
   rotate_left
   rw [if_neg c5] at H
   have c5b0 : (((rd_T41 l0 x5_1).f0.f0) == x1_1) = false := beq_eq_false_iff_ne.mpr c5
   have c5b1 : (((rd_T41 l0 x5_1).f0.f0) != x1_1) = true := bne_iff_ne.mpr c5
   obtain rfl := Option.some.inj H
   rotate_left
   ·rw [if_neg c4] at H
    exact absurd H (by simp)
   rw [if_neg c3] at H
   have c3b0 := decide_eq_false c3
   clear c3
   obtain rfl := Option.some.inj H
   rotate_left
   rotate_left 6
   ·have p458 : 0 ≤ (x5_1 : Int) := od
    have q458 : x5_1 < (l0.length : Int) := od
    obtain ⟨ad458, e458, hx458_0, hx458_1, hx458_2, hx458_3, hx458_4, hx458_5⟩ := at_T41 HR0.out x5_1 p458 q458
    cases e458
    replace p458 := eq_true p458
    replace q458 := eq_true q458
    go_wp2
    go_ret
    exact ⟨by first | rfl | (simp; done) | (simp [*]; done), by repeat (first | exact Drawn0.refl _ | apply Drawn0.step)⟩
   ·go_wp2
    go_ret
    exact ⟨by first | rfl | (simp; done) | (simp [*]; done), by repeat (first | exact Drawn0.refl _ | apply Drawn0.step)⟩
   all_goals
    have p458 : 0 ≤ (x5_1 : Int) := od
    have q458 : x5_1 < (l0.length : Int) := od
    obtain ⟨ad458, e458, hx458_0, hx458_1, hx458_2, hx458_3, hx458_4, hx458_5⟩ := at_T41 HR0.out x5_1 p458 q458
    cases e458
    replace p458 := eq_true p458
    replace q458 := eq_true q458
    have p459 : 0 ≤ (x5_1 : Int) := od
    have q459 : x5_1 < (l0.length : Int) := od
    obtain ⟨ad459, e459, hx459_0, hx459_1, hx459_2, hx459_3, hx459_4, hx459_5⟩ := at_T41 HR0.out x5_1 p459 q459
    obtain rfl : ad458 = ad459 := (by injection e459)
    replace p459 := eq_true p459
    replace q459 := eq_true q459
   rotate_left 4
   ·have p460 : 0 ≤ (x5_1 : Int) := od
    have q460 : x5_1 < (l0.length : Int) := od
    obtain ⟨ad460, e460, hx460_0, hx460_1, hx460_2, hx460_3, hx460_4, hx460_5⟩ := at_T41 HR0.out x5_1 p460 q460
    obtain rfl : ad458 = ad460 := (by injection e460)
    replace p460 := eq_true p460
    replace q460 := eq_true q460
    go_wp2
    go_ret
    exact ⟨by first | rfl | (simp; done) | (simp [*]; done), by repeat (first | exact Drawn0.refl _ | apply Drawn0.step)⟩
   ·go_wp2
    go_ret
    exact ⟨by first | rfl | (simp; done) | (simp [*]; done), by repeat (first | exact Drawn0.refl _ | apply Drawn0.step)⟩
   all_goals
    have p460 : 0 ≤ (x5_1 : Int) := od
    have q460 : x5_1 < (l0.length : Int) := od
    obtain ⟨ad460, e460, hx460_0, hx460_1, hx460_2, hx460_3, hx460_4, hx460_5⟩ := at_T41 HR0.out x5_1 p460 q460
    obtain rfl : ad458 = ad460 := (by injection e460)
    replace p460 := eq_true p460
    replace q460 := eq_true q460
    have p461 : 0 ≤ (x5_1 : Int) := od
    have q461 : x5_1 < (l0.length : Int) := od
    obtain ⟨ad461, e461, hx461_0, hx461_1, hx461_2, hx461_3, hx461_4, hx461_5⟩ := at_T41 HR0.out x5_1 p461 q461
    obtain rfl : ad458 = ad461 := (by injection e461)
    replace p461 := eq_true p461
    replace q461 := eq_true q461
   rotate_left 3
   ·go_wp2
    go_ret
    exact ⟨by first | rfl | (simp; done) | (simp [*]; done), by repeat (first | exact Drawn0.refl _ | apply Drawn0.step)⟩
   all_goals
    have p462 : 0 ≤ (x5_1 : Int) := od
    have q462 : x5_1 < (l0.length : Int) := od
    obtain ⟨ad462, e462, hx462_0, hx462_1, hx462_2, hx462_3, hx462_4, hx462_5⟩ := at_T41 HR0.out x5_1 p462 q462
    obtain rfl : ad458 = ad462 := (by injection e462)
    replace p462 := eq_true p462
    replace q462 := eq_true q462
   rotate_left 2
   ·go_wp2
    go_ret
    exact ⟨by first | rfl | (simp; done) | (simp [*]; done), by repeat (first | exact Drawn0.refl _ | apply Drawn0.step)⟩
   all_goals
    have p463 : 0 ≤ (x5_1 : Int) := od
    have q463 : x5_1 < (l0.length : Int) := od
    obtain ⟨ad463, e463, hx463_0, hx463_1, hx463_2, hx463_3, hx463_4, hx463_5⟩ := at_T41 HR0.out x5_1 p463 q463
    obtain rfl : ad458 = ad463 := (by injection e463)
    replace p463 := eq_true p463
    replace q463 := eq_true q463
    go_wp2
   ·go_roundg k1
    case measure => have := HK1.out; omega
    case rel => exact ⟨(wrap64 ((wrap64 ((wrap64 ((wrap64 ((wrap64 ((wrap64 (x1_1 + 1)) + 1)) + 1)) + 1)) + 1)) + 1)), (wrap64 (x5_1 + 1)), (by first | rfl | (simp; done) | (simp [*]; done)), (by first | rfl | (simp; done) | (simp [*]; done)), H', ⟨by have := HK1.out; omega⟩, by repeat (first | exact Drawn0.refl _ | apply Drawn0.step)⟩
   ·go_ret
    exact ⟨by first | rfl | (simp; done) | (simp [*]; done), by repeat (first | exact Drawn0.refl _ | apply Drawn0.step)⟩
/-! ### laws_FnExactStandardGroup: function 3 -/
mutual
def laws_FnExactStandardGroup.j0 : Nat → ByteArray → Int → Int → List (S41) → Int → List (S41) → Bool → Int → Int → Int → Option (Bool)
 | 0, _, _, _, _, _, _, _, _, _, _ => none
 | k + 1, x0, x1, x5, x7, x8, x11, x57, x473000, x473001, x473002 => if x57 = true then (some false) else ((laws_markMotionS.f k x11 1).bind fun bt484 => ((laws_heldMotionS.f k bt484.2 1).bind fun t486 => (if t486 < 0 then (some false) else (if t486 = bt484.1 then ((impl_StandardGroup.f k x0 x1).bind fun bt487 => (if bt487.1 = x5 then ((laws_eqLattice.f bt487.2.1 bt487.2.2.1 bt487.2.2.2.1 x473000 x473001 x473002).bind fun t496 => (if t496 = true then ((laws_eqMotionS.f k bt487.2.2.2.2.1 x7).bind fun t497 => (if t497 = true then (laws_FnExactStandardGroup.j1 k bt484.2 bt484.1 (bt487.2.2.2.2.2 != x8)) else (laws_FnExactStandardGroup.j1 k bt484.2 bt484.1 true))) else (laws_FnExactStandardGroup.j1 k bt484.2 bt484.1 true))) else (laws_FnExactStandardGroup.j1 k bt484.2 bt484.1 true))) else (some false)))))
def laws_FnExactStandardGroup.j1 : Nat → List (S41) → Int → Bool → Option (Bool)
 | 0, _, _, _ => none
 | k + 1, x11, x13, x96 => if x96 = true then (some false) else ((laws_heldMotionS.f k x11 1).bind fun t498 => (if t498 < 0 then (some false) else (if t498 = x13 then (some true) else (some false))))
end
def laws_FnExactStandardGroup.f (k : Nat) (a0 : ByteArray) (a1 : Int) : Option (Bool) := if (a0.size : Int) > 1048576 then (some true) else ((spec_StandardGroup.f k a0 a1).bind fun bt464 => ((impl_StandardGroup.f k a0 a1).bind fun bt473 => (if bt473.1 = bt464.1 then ((laws_eqLattice.f bt473.2.1 bt473.2.2.1 bt473.2.2.2.1 bt464.2.1 bt464.2.2.1 bt464.2.2.2.1).bind fun t482 => (if t482 = true then ((laws_eqMotionS.f k bt473.2.2.2.2.1 bt464.2.2.2.2.1).bind fun t483 => (if t483 = true then (laws_FnExactStandardGroup.j0 k a0 a1 bt464.1 bt464.2.2.2.2.1 bt464.2.2.2.2.2 bt473.2.2.2.2.1 (bt473.2.2.2.2.2 != bt464.2.2.2.2.2) bt464.2.1 bt464.2.2.1 bt464.2.2.2.1) else (laws_FnExactStandardGroup.j0 k a0 a1 bt464.1 bt464.2.2.2.2.1 bt464.2.2.2.2.2 bt473.2.2.2.2.1 true bt464.2.1 bt464.2.2.1 bt464.2.2.2.1))) else (laws_FnExactStandardGroup.j0 k a0 a1 bt464.1 bt464.2.2.2.2.1 bt464.2.2.2.2.2 bt473.2.2.2.2.1 true bt464.2.1 bt464.2.2.1 bt464.2.2.2.1))) else (laws_FnExactStandardGroup.j0 k a0 a1 bt464.1 bt464.2.2.2.2.1 bt464.2.2.2.2.2 bt473.2.2.2.2.1 true bt464.2.1 bt464.2.2.1 bt464.2.2.2.1))))
set_option maxHeartbeats 8000000 in
set_option maxRecDepth 100000 in
theorem laws_FnExactStandardGroup.calls (k : Nat) (a0 : ByteArray) (a1 : Int) (w : World) (h : laws_FnExactStandardGroup.f k a0 a1 = some true) :
  Calls Try.prog 3 #[.string a0, .int .i64 a1] w fun e w' => e = .returned (.bool true) ∧ Below w.heap.size w w' := by
 have hu23 := Try.underlying23
 have HB := asd (Below.refl w.heap.size w)
 have H : (if (a0.size : Int) > 1048576 then (some true) else ((spec_StandardGroup.f k a0 a1).bind fun bt464 => ((impl_StandardGroup.f k a0 a1).bind fun bt473 => (if bt473.1 = bt464.1 then ((laws_eqLattice.f bt473.2.1 bt473.2.2.1 bt473.2.2.2.1 bt464.2.1 bt464.2.2.1 bt464.2.2.2.1).bind fun t482 => (if t482 = true then ((laws_eqMotionS.f k bt473.2.2.2.2.1 bt464.2.2.2.2.1).bind fun t483 => (if t483 = true then (laws_FnExactStandardGroup.j0 k a0 a1 bt464.1 bt464.2.2.2.2.1 bt464.2.2.2.2.2 bt473.2.2.2.2.1 (bt473.2.2.2.2.2 != bt464.2.2.2.2.2) bt464.2.1 bt464.2.2.1 bt464.2.2.2.1) else (laws_FnExactStandardGroup.j0 k a0 a1 bt464.1 bt464.2.2.2.2.1 bt464.2.2.2.2.2 bt473.2.2.2.2.1 true bt464.2.1 bt464.2.2.1 bt464.2.2.2.1))) else (laws_FnExactStandardGroup.j0 k a0 a1 bt464.1 bt464.2.2.2.2.1 bt464.2.2.2.2.2 bt473.2.2.2.2.1 true bt464.2.1 bt464.2.2.1 bt464.2.2.2.1))) else (laws_FnExactStandardGroup.j0 k a0 a1 bt464.1 bt464.2.2.2.2.1 bt464.2.2.2.2.2 bt473.2.2.2.2.1 true bt464.2.1 bt464.2.2.1 bt464.2.2.2.1))))) = some true := h
 clear h
 by_cases c3 : (a0.size : Int) > 1048576
 ·rw [if_pos c3] at H
  have c3b0 : decide (1048576 < (a0.size : Int)) = true := decide_eq_true c3
  have c3b1 : decide (1048576 < a0.size) = true := decide_eq_true (by omega)
  clear c3
  clear H
  go_enter Try.func3, Try.ntmps3
  go_wp2
  go_ret
  exact er (bbw0 HB)
 ·rw [if_neg c3] at H
  have c3b0 : decide (1048576 < (a0.size : Int)) = false := decide_eq_false c3
  have c3b1 : decide (1048576 < a0.size) = false := decide_eq_false (by omega)
  clear c3
  obtain ⟨⟨t464, t465, t466, t467, t468, t471⟩, A4, H⟩ := ob H
  try dsimp only at H
  obtain ⟨⟨t473, t474, t475, t476, t477, t480⟩, A5, H⟩ := ob H
  try dsimp only at H
  have HC6 := Aside0.mk H
  clear H
  go_enter Try.func3, Try.ntmps3
  go_upto_region 5 with (first | ((with_reducible refine gate_callee (f := 4) rfl ?_); refine gl 25 Try.func4 #[.string a0, .int .i64 a1] ?_; (with_reducible refine (spec_StandardGroup.calls _ _ _ _ _ _ _ _ _ _ A4.out).mono ?_); rintro e w7 ⟨v469, rfl, ho0, hb⟩; refine ⟨_, rfl, ?_⟩; have HO470 := asd (Kd.R_lower ho0 (bsz0 HB)); replace HB := bS0 HB hb; (try clear hb); (try clear hb2); (try clear hk); (try clear hi); (try clear ho0)) | ((with_reducible refine gd 6 rfl ?_); refine bx #[.int .i64 0, .int .i64 0, .int .i64 0] 23 ?_; intro gb472 hg w8 BK472 hb; replace HO470 := asd (Kd.R_below (kr HO470) hb); have GE472 := ngw0 hg HB; replace HB := bS0 HB hb; clear hb hg; obtain ⟨hcz9_0, hcz9_1, hcz9_2, hfz9_0, hfz9_1, hfz9_2⟩ := bz3 BK472) | ((with_reducible refine gate_callee (f := 5) rfl ?_); refine gl 33 Try.func5 #[.string a0, .int .i64 a1] ?_; (with_reducible refine (impl_StandardGroup.calls _ _ _ _ _ _ _ _ _ _ A5.out).mono ?_); rintro e w10 ⟨v478, rfl, ho0, hb⟩; refine ⟨_, rfl, ?_⟩; have HO479 := asd (Kd.R_lower (Kd.R_new' ho0 (Kd.R_lt (by (with_reducible repeat (first | apply Kd.R_alloc | apply Kd.R_drewN | apply Kd.R_drew)); exact (Kd.R_mono (rw3 (Kd.R_types HO470.out BK472.out (by decide))) (fun _ h_ => h_.1))))) (bsz1 HB GE472)); replace HO470 := asd (Kd.R_elder' (by (with_reducible repeat (first | apply Kd.R_alloc | apply Kd.R_drewN | apply Kd.R_drew)); exact (Kd.R_mono (rw3 (Kd.R_types HO470.out BK472.out (by decide))) (fun _ h_ => h_.1))) (Kd.R_base ho0) hb); replace BK472 := asd (blk_below (g := gb472) (o := .cells #[.int .i64 t465, .int .i64 t466, .int .i64 t467] 23 (0, 0)) (bq0 BK472) hb); replace HB := bS1 HB GE472 hb; (try clear hb); (try clear hb2); (try clear hk); (try clear hi); (try clear ho0)) | ((with_reducible refine gd 10 rfl ?_); refine bx #[.int .i64 0, .int .i64 0, .int .i64 0] 23 ?_; intro gb481 hg w11 BK481 hb; replace HO470 := asd (Kd.R_below (kr HO470) hb); replace HO479 := asd (Kd.R_below (kr HO479) hb); have GE481 := ngw1 hg HB GE472; replace HB := bS1 HB GE472 hb; have NB472_481 := nlt hg BK472; have NB481_472 := nsy (nlt hg BK472); replace BK472 := bB BK472 hb; clear hb hg; have hnb12 := NB481_472.out; have hnc12 := NB472_481.out; obtain ⟨hcz13_0, hcz13_1, hcz13_2, hfz13_0, hfz13_1, hfz13_2⟩ := bz3 BK481))
  (try simp only [Act.put, sA, sB, sC])
  go_cut [57] (fun v57 wc => ∃ (kq : Nat) (x57_5 : Bool), v57 = .bool x57_5 ∧ Aside0 (laws_FnExactStandardGroup.j0 kq a0 a1 t464 t468 t471 t477 x57_5 t465 t466 t467 = some true) ∧ Aside0 (kq ≤ k) ∧ Aside0 (Kd.R k41 41 wc w.heap.size (fun k_ => some k_ ≠ (v478 : Value).ownBlock) v469 t468) ∧ Aside0 (Kd.R k41 41 wc w.heap.size (fun k_ => some k_ ≠ (v469 : Value).ownBlock) v478 t477) ∧ Aside0 (wc.heap[gb472]? = some (.cells #[.int .i64 t465, .int .i64 t466, .int .i64 t467] 23 (0, 0))) ∧ Aside0 (wc.heap[gb481]? = some (.cells #[.int .i64 t474, .int .i64 t475, .int .i64 t476] 23 (0, 0))) ∧ Aside0 (Below w.heap.size w wc))
  case first =>
   have H := HC6.out
   clear HC6
   by_cases c14 : t473 = t464
   ·rw [if_pos c14] at H
    have c14b0 : (t473 == t464) = true := beq_iff_eq.mpr c14
    have c14b1 : (t473 != t464) = false := bne_eq_false_iff_eq.mpr c14
    clear c14
    (first | rw [c14b0] | (simp only [i64_w, i32_w]; rw [c14b0]) | skip)
    obtain ⟨t482, A15, H⟩ := ob H
    try dsimp only at H
    by_cases c16 : t482 = true
    subst c16
    replace H := ifT H
    obtain ⟨t483, A17, H⟩ := ob H
    try dsimp only at H
    by_cases c18 : t483 = true
    subst c18
    replace H := ifT H
    have H' := Aside0.mk H
    clear H
    rotate_left
    replace c18 := Bool.eq_false_iff.mpr c18
    subst c18
    replace H := ifF H
    have H' := Aside0.mk H
    clear H
    rotate_left
    replace c16 := Bool.eq_false_iff.mpr c16
    subst c16
    replace H := ifF H
    have H' := Aside0.mk H
    clear H
    rotate_left
    all_goals
     have hnb19 := NB481_472.out
     have hnc19 := NB472_481.out
    obtain ⟨hcz20_0, hcz20_1, hcz20_2, hfz20_0, hfz20_1, hfz20_2⟩ := bz3 BK481
    obtain ⟨hcz21_0, hcz21_1, hcz21_2, hfz21_0, hfz21_1, hfz21_2⟩ := bz3 BK472
    rotate_left
    obtain ⟨hcz27_0, hcz27_1, hcz27_2, hfz27_0, hfz27_1, hfz27_2⟩ := bz3 BK481
    obtain ⟨hcz28_0, hcz28_1, hcz28_2, hfz28_0, hfz28_1, hfz28_2⟩ := bz3 BK472
    rotate_left
    ·obtain ⟨hcz34_0, hcz34_1, hcz34_2, hfz34_0, hfz34_1, hfz34_2⟩ := bz3 BK481
     obtain ⟨hcz35_0, hcz35_1, hcz35_2, hfz35_0, hfz35_1, hfz35_2⟩ := bz3 BK472
     go_wp2_with (first | (go_at_call 6; (with_reducible refine (laws_eqLattice.calls _ _ _ _ _ _ _ _ A15.out).mono ?_); rintro e w36 ⟨rfl, hb⟩; replace HO470 := asd (Kd.R_below (by (with_reducible repeat (first | apply Kd.R_alloc | apply Kd.R_drewN | apply Kd.R_drew)); exact (Kd.R_mono (rw3 (Kd.R_types HO470.out BK481.out (by decide))) (fun _ h_ => h_.1))) hb); replace HO479 := asd (Kd.R_below (by (with_reducible repeat (first | apply Kd.R_alloc | apply Kd.R_drewN | apply Kd.R_drew)); exact (Kd.R_mono (rw3 (Kd.R_types HO479.out BK481.out (by decide))) (fun _ h_ => h_.1))) hb); replace BK472 := asd (blk_below (g := gb472) (o := .cells #[.int .i64 t465, .int .i64 t466, .int .i64 t467] 23 (0, 0)) (bq1 BK472 NB472_481) hb); replace BK481 := asd (blk_below (g := gb481) (o := .cells #[.int .i64 t474, .int .i64 t475, .int .i64 t476] 23 (0, 0)) (bq0 BK481) hb); replace HB := bS2 HB GE472 GE481 hb; (try clear hb)))
     go_meet
     case rel => exact ⟨_, (true), (by first | rfl | (simp; done) | (simp [*]; done)), H', ⟨by first | omega | exact Nat.le_refl _⟩, ⟨by (with_reducible repeat (first | apply Kd.R_alloc | apply Kd.R_drewN | apply Kd.R_drew)); exact Kd.R_mono HO470.out (fun _ hk => hk.2)⟩, ⟨by (with_reducible repeat (first | apply Kd.R_alloc | apply Kd.R_drewN | apply Kd.R_drew)); exact Kd.R_mono HO479.out (fun _ hk => hk.2)⟩, ⟨bkp BK472⟩, ⟨bkp BK481⟩, ⟨bbw2 HB GE472 GE481⟩⟩
    all_goals
     go_wp2_with (first | (go_at_call 6; (with_reducible refine (laws_eqLattice.calls _ _ _ _ _ _ _ _ A15.out).mono ?_); rintro e w22 ⟨rfl, hb⟩; replace HO470 := asd (Kd.R_below (by (with_reducible repeat (first | apply Kd.R_alloc | apply Kd.R_drewN | apply Kd.R_drew)); exact (Kd.R_mono (rw3 (Kd.R_types HO470.out BK481.out (by decide))) (fun _ h_ => h_.1))) hb); replace HO479 := asd (Kd.R_below (by (with_reducible repeat (first | apply Kd.R_alloc | apply Kd.R_drewN | apply Kd.R_drew)); exact (Kd.R_mono (rw3 (Kd.R_types HO479.out BK481.out (by decide))) (fun _ h_ => h_.1))) hb); replace BK472 := asd (blk_below (g := gb472) (o := .cells #[.int .i64 t465, .int .i64 t466, .int .i64 t467] 23 (0, 0)) (bq1 BK472 NB472_481) hb); replace BK481 := asd (blk_below (g := gb481) (o := .cells #[.int .i64 t474, .int .i64 t475, .int .i64 t476] 23 (0, 0)) (bq0 BK481) hb); replace HB := bS2 HB GE472 GE481 hb; (try clear hb); obtain ⟨Ao23, co23, eo23⟩ := Kd.R_slice HO479.out; subst eo23; obtain ⟨Ao24, co24, eo24⟩ := Kd.R_slice HO470.out; subst eo24) | (go_at_call 7; (with_reducible refine (laws_eqMotionS.calls _ _ _ _ _ _ _ _ _ ?side1 ?side2 ?side3 ?side4 A17.out).mono ?_); (case side1 => exact ks (Kd.R_reads' HO479.out).2.2); (case side2 => exact (Kd.R_reads' HO479.out).2.1); (case side3 => exact ks (Kd.R_reads' HO470.out).2.2); (case side4 => exact (Kd.R_reads' HO470.out).2.1); rintro e w25 ⟨rfl, hb⟩; replace HO470 := asd (Kd.R_below (kr HO470) hb); replace HO479 := asd (Kd.R_below (kr HO479) hb); replace BK472 := bB BK472 hb; replace BK481 := bB BK481 hb; replace HB := bS2 HB GE472 GE481 hb; (try clear hb)))
     go_meet
    ·case rel => exact ⟨_, ((t480 != t471)), (by first | rfl | (simp; done) | (simp [*]; done)), H', ⟨by first | omega | exact Nat.le_refl _⟩, ⟨by (with_reducible repeat (first | apply Kd.R_alloc | apply Kd.R_drewN | apply Kd.R_drew)); exact Kd.R_mono HO470.out (fun _ hk => hk.2)⟩, ⟨by (with_reducible repeat (first | apply Kd.R_alloc | apply Kd.R_drewN | apply Kd.R_drew)); exact Kd.R_mono HO479.out (fun _ hk => hk.2)⟩, ⟨bkp BK472⟩, ⟨bkp BK481⟩, ⟨bbw2 HB GE472 GE481⟩⟩
    ·case rel => exact ⟨_, (true), (by first | rfl | (simp; done) | (simp [*]; done)), H', ⟨by first | omega | exact Nat.le_refl _⟩, ⟨by (with_reducible repeat (first | apply Kd.R_alloc | apply Kd.R_drewN | apply Kd.R_drew)); exact Kd.R_mono HO470.out (fun _ hk => hk.2)⟩, ⟨by (with_reducible repeat (first | apply Kd.R_alloc | apply Kd.R_drewN | apply Kd.R_drew)); exact Kd.R_mono HO479.out (fun _ hk => hk.2)⟩, ⟨bkp BK472⟩, ⟨bkp BK481⟩, ⟨bbw2 HB GE472 GE481⟩⟩
   ·rw [if_neg c14] at H
    have c14b0 : (t473 == t464) = false := beq_eq_false_iff_ne.mpr c14
    have c14b1 : (t473 != t464) = true := bne_iff_ne.mpr c14
    (first | rw [c14b0] | (simp only [i64_w, i32_w]; rw [c14b0]) | skip)
    have H' := Aside0.mk H
    clear H
    go_wp2
    go_meet
    case rel => exact ⟨_, (true), (by first | rfl | (simp; done) | (simp [*]; done)), H', ⟨by first | omega | exact Nat.le_refl _⟩, ⟨by (with_reducible repeat (first | apply Kd.R_alloc | apply Kd.R_drewN | apply Kd.R_drew)); exact Kd.R_mono (rw3 (Kd.R_types HO470.out BK481.out (by decide))) (fun _ hk => hk.1.2)⟩, ⟨by (with_reducible repeat (first | apply Kd.R_alloc | apply Kd.R_drewN | apply Kd.R_drew)); exact Kd.R_mono (rw3 (Kd.R_types HO479.out BK481.out (by decide))) (fun _ hk => hk.1.2)⟩, ⟨bq1 BK472 NB472_481⟩, ⟨bq0 BK481⟩, ⟨bbw2 HB GE472 GE481⟩⟩
  case rest =>
   clear HC6
   try clear c1
   try clear c2
   try clear p2
   try clear c3
   try clear c3b0
   try clear c3b1
   try clear c4
   try clear c5
   try clear c12
   try clear c14
   try clear c14b0
   try clear c14b1
   try clear c16
   try clear c18
   try clear c19
   try clear c26
   try clear c33
   try clear hcz13_0
   try clear hcz13_1
   try clear hcz13_2
   try clear hcz20_0
   try clear hcz20_1
   try clear hcz20_2
   try clear hcz21_0
   try clear hcz21_1
   try clear hcz21_2
   try clear hcz27_0
   try clear hcz27_1
   try clear hcz27_2
   try clear hcz28_0
   try clear hcz28_1
   try clear hcz28_2
   try clear hcz34_0
   try clear hcz34_1
   try clear hcz34_2
   try clear hcz35_0
   try clear hcz35_1
   try clear hcz35_2
   try clear hcz9_0
   try clear hcz9_1
   try clear hcz9_2
   try clear hfz13_0
   try clear hfz13_1
   try clear hfz13_2
   try clear hfz20_0
   try clear hfz20_1
   try clear hfz20_2
   try clear hfz21_0
   try clear hfz21_1
   try clear hfz21_2
   try clear hfz27_0
   try clear hfz27_1
   try clear hfz27_2
   try clear hfz28_0
   try clear hfz28_1
   try clear hfz28_2
   try clear hfz34_0
   try clear hfz34_1
   try clear hfz34_2
   try clear hfz35_0
   try clear hfz35_1
   try clear hfz35_2
   try clear hfz9_0
   try clear hfz9_1
   try clear hfz9_2
   obtain ⟨kq, x57_5, rfl, HA, HJ5, HO_7, HO_11, BK472, BK481, HB⟩ := hcut
   cases kq with
   | zero => exact absurd HA.out (by simp [laws_FnExactStandardGroup.j0])
   | succ kj5 =>
    have H := HA.out
    clear HA
    simp only [laws_FnExactStandardGroup.j0] at H
    by_cases c37 : x57_5 = true
    ·subst c37
     replace H := ifT H
     exact absurd H (by simp)
    ·replace c37 := Bool.eq_false_iff.mpr c37
     subst c37
     replace H := ifF H
     obtain ⟨⟨t484, t485⟩, A38, H⟩ := ob H
     try dsimp only at H
     obtain ⟨t486, A39, H⟩ := ob H
     try dsimp only at H
     by_cases c40 : t486 < 0
     ·rw [if_pos c40] at H
      have c40b0 := decide_eq_true c40
      clear c40
      exact absurd H (by simp)
     ·rw [if_neg c40] at H
      have c40b0 := decide_eq_false c40
      clear c40
      by_cases c41 : t486 = t484
      ·rw [if_pos c41] at H
       have c41b0 : (t486 == t484) = true := beq_iff_eq.mpr c41
       have c41b1 : (t486 != t484) = false := bne_eq_false_iff_eq.mpr c41
       clear c41
       obtain ⟨⟨t487, t488, t489, t490, t491, t494⟩, A42, H⟩ := ob H
       try dsimp only at H
       have HC43 := Aside0.mk H
       clear H
       obtain ⟨Ao44, co44, eo44⟩ := Kd.R_slice HO_11.out
       subst eo44
       go_upto_region 16 with (first | ((with_reducible refine gate_callee (f := 8) rfl ?_); refine gl 60 Try.func8 #[.slice Ao44 t477.length co44, .int .i64 1] ?_; (with_reducible refine (laws_markMotionS.calls _ (fun k_ => some k_ = (.slice Ao44 t477.length co44 : Value).ownBlock) _ _ _ _ _ w _ ?side1 ?side2 A38.out).mono ?_); (case side1 => repeat (first | (with_reducible first | exact HB.out | apply below_alloc | apply pw_below_drewN | apply below_drew1 | refine below_set ?_ GE472.out | refine below_set ?_ GE481.out) | exact HB.out)); (case side2 => exact Kd.R_tight rfl HO_11.out); rintro e w45 ⟨rfl, hy0, hb, hkp⟩; refine ⟨_, rfl, ?_⟩; replace HO_7 := asd (Kd.R_mono (ok' := fun k_ => some k_ ≠ (.slice Ao44 t477.length co44 : Value).ownBlock) (Kd.R_keptB (HO_7.out) hkp (fun k_ hk_ hs_ => (hk_) hs_)) (fun k_ hk_ => hk_.1)); replace BK472 := asd (blk_kept (bkp BK472) hkp (fun hs_ => (fun e_ => (Kd.R_ne HO_11.out BK472.out (by decide)) e_) hs_)); replace BK481 := asd (blk_kept (bkp BK481) hkp (fun hs_ => (fun e_ => (Kd.R_ne HO_11.out BK481.out (by decide)) e_) hs_)); replace HO_11 := asd (Kd.R_reok rfl hy0 (fun k_ e_ => HO_11.out.1 k_ e_)); replace HB := asd (hb); (try clear hb); (try clear hkp); (try clear hy0)) | ((with_reducible refine gate_callee (f := 9) rfl ?_); refine goesL_ (some 63) rfl rfl Try.func9 (by kernel_rfl) rfl #[.slice Ao44 t485.length co44, .int .i64 1] rfl (by (try simp only [List.map_toArray, List.map_cons, List.map_nil]); first | done | (rw [show t485.length = t477.length from (Kd.R_reads' HO_11.out).1.symm] <;> rfl) | rfl | (simp only [List.length_drop, List.length_take]; rfl)) ?_; (with_reducible refine (laws_heldMotionS.calls _ _ _ _ _ _ _ ?side1 ?side2 A39.out).mono ?_); (case side1 => exact ks (Kd.R_reads' HO_11.out).2.2); (case side2 => rw [show t485.length = t477.length from (Kd.R_reads' HO_11.out).1.symm]; exact (Kd.R_reads' HO_11.out).2.1); rintro e w' ⟨rfl, ⟨nd, rfl⟩⟩; refine ⟨_, rfl, ?_⟩; (try (rw [drewN_self w45]; generalize hq_ : World.drewN w45 _ = w45; have n0_ : Aside0 (Kd.R k41 41 w45 w.heap.size (fun k_ => some k_ ≠ (v469 : Value).ownBlock) (.slice Ao44 t477.length co44) t485) := ⟨by rw [← hq_]; exact (kr HO_11)⟩; have n1_ : Aside0 (Kd.R k41 41 w45 w.heap.size (fun k_ => some k_ ≠ (.slice Ao44 t477.length co44 : Value).ownBlock) v469 t468) := ⟨by rw [← hq_]; exact (kr HO_7)⟩; have n2_ : Aside0 (w45.heap[gb472]? = some (.cells #[.int .i64 t465, .int .i64 t466, .int .i64 t467] 23 (0, 0))) := ⟨by rw [← hq_]; exact (bkp BK472)⟩; have n3_ : Aside0 (w45.heap[gb481]? = some (.cells #[.int .i64 t474, .int .i64 t475, .int .i64 t476] 23 (0, 0))) := ⟨by rw [← hq_]; exact (bkp BK481)⟩; have n4_ : Aside0 (Below w.heap.size w w45) := ⟨by rw [← hq_]; exact (bbw2 HB GE472 GE481)⟩; clear HO_11 HO_7 BK472 BK481 HB hq_; have HO_11 := n0_; have HO_7 := n1_; have BK472 := n2_; have BK481 := n3_; have HB := n4_; clear n0_ n1_ n2_ n3_ n4_))) | ((with_reducible refine gate_callee (f := 5) rfl ?_); refine gl 72 Try.func5 #[.string a0, .int .i64 a1] ?_; (with_reducible refine (impl_StandardGroup.calls _ _ _ _ _ _ _ _ _ _ A42.out).mono ?_); rintro e w46 ⟨v492, rfl, ho0, hb⟩; refine ⟨_, rfl, ?_⟩; have HO493 := asd (Kd.R_lower (Kd.R_new' (Kd.R_new' ho0 (Kd.R_lt (kr HO_7))) (Kd.R_lt (kr HO_11))) (bsz2 HB GE472 GE481)); replace HO_7 := asd (Kd.R_elder' (kr HO_7) (Kd.R_base ho0) hb); replace HO_11 := asd (Kd.R_elder' (kr HO_11) (Kd.R_base ho0) hb); replace BK472 := bB BK472 hb; replace BK481 := bB BK481 hb; replace HB := bS2 HB GE472 GE481 hb; (try clear hb); (try clear hb2); (try clear hk); (try clear hi); (try clear ho0)) | ((with_reducible refine gd 16 rfl ?_); refine bx #[.int .i64 0, .int .i64 0, .int .i64 0] 23 ?_; intro gb495 hg w47 BK495 hb; replace HO_7 := asd (Kd.R_below (kr HO_7) hb); replace HO_11 := asd (Kd.R_below (kr HO_11) hb); replace HO493 := asd (Kd.R_below (kr HO493) hb); have GE495 := ngw2 hg HB GE472 GE481; replace HB := bS2 HB GE472 GE481 hb; have NB472_495 := nlt hg BK472; have NB495_472 := nsy (nlt hg BK472); replace BK472 := bB BK472 hb; have NB481_495 := nlt hg BK481; have NB495_481 := nsy (nlt hg BK481); replace BK481 := bB BK481 hb; clear hb hg; have hnb48 := NB495_472.out; have hnc48 := NB472_495.out; have hnb49 := NB495_481.out; have hnc49 := NB481_495.out; obtain ⟨hcz50_0, hcz50_1, hcz50_2, hfz50_0, hfz50_1, hfz50_2⟩ := bz3 BK495))
       (try simp only [Act.put, sA, sB, sC])
       go_cut [96] (fun v96 wc => ∃ (kq : Nat) (x96_42 : Bool), v96 = .bool x96_42 ∧ Aside0 (laws_FnExactStandardGroup.j1 kq t485 t484 x96_42 = some true) ∧ Aside0 (kq ≤ kj5) ∧ Aside0 (Kd.R k41 41 wc w.heap.size (fun _ => True) (.slice Ao44 t477.length co44) t485) ∧ Aside0 (wc.heap[gb472]? = some (.cells #[.int .i64 t465, .int .i64 t466, .int .i64 t467] 23 (0, 0))) ∧ Aside0 (wc.heap[gb481]? = some (.cells #[.int .i64 t474, .int .i64 t475, .int .i64 t476] 23 (0, 0))) ∧ Aside0 (wc.heap[gb495]? = some (.cells #[.int .i64 t488, .int .i64 t489, .int .i64 t490] 23 (0, 0))) ∧ Aside0 (Below w.heap.size w wc))
       case first =>
        have H := HC43.out
        clear HC43
        by_cases c51 : t487 = t464
        ·rw [if_pos c51] at H
         have c51b0 : (t487 == t464) = true := beq_iff_eq.mpr c51
         have c51b1 : (t487 != t464) = false := bne_eq_false_iff_eq.mpr c51
         clear c51
         (first | rw [c51b0] | (simp only [i64_w, i32_w]; rw [c51b0]) | skip)
         obtain ⟨t496, A52, H⟩ := ob H
         try dsimp only at H
         by_cases c53 : t496 = true
         subst c53
         replace H := ifT H
         obtain ⟨t497, A54, H⟩ := ob H
         try dsimp only at H
         by_cases c55 : t497 = true
         subst c55
         replace H := ifT H
         have H' := Aside0.mk H
         clear H
         rotate_left
         replace c55 := Bool.eq_false_iff.mpr c55
         subst c55
         replace H := ifF H
         have H' := Aside0.mk H
         clear H
         rotate_left
         replace c53 := Bool.eq_false_iff.mpr c53
         subst c53
         replace H := ifF H
         have H' := Aside0.mk H
         clear H
         rotate_left
         all_goals
          have hnb56 := NB495_472.out
          have hnc56 := NB472_495.out
          have hnb57 := NB495_481.out
          have hnc57 := NB481_495.out
         obtain ⟨hcz58_0, hcz58_1, hcz58_2, hfz58_0, hfz58_1, hfz58_2⟩ := bz3 BK495
         rotate_left
         obtain ⟨hcz67_0, hcz67_1, hcz67_2, hfz67_0, hfz67_1, hfz67_2⟩ := bz3 BK495
         rotate_left
         obtain ⟨hcz76_0, hcz76_1, hcz76_2, hfz76_0, hfz76_1, hfz76_2⟩ := bz3 BK495
         rotate_left
         all_goals
          have hnb59 := NB472_481.out
          have hnc59 := NB481_472.out
         obtain ⟨hcz60_0, hcz60_1, hcz60_2, hfz60_0, hfz60_1, hfz60_2⟩ := bz3 BK472
         rotate_left
         obtain ⟨hcz69_0, hcz69_1, hcz69_2, hfz69_0, hfz69_1, hfz69_2⟩ := bz3 BK472
         rotate_left
         ·obtain ⟨hcz78_0, hcz78_1, hcz78_2, hfz78_0, hfz78_1, hfz78_2⟩ := bz3 BK472
          go_wp2_with (first | (go_at_call 6; (with_reducible refine (laws_eqLattice.calls _ _ _ _ _ _ _ _ A52.out).mono ?_); rintro e w79 ⟨rfl, hb⟩; replace HO_7 := asd (Kd.R_below (by (with_reducible repeat (first | apply Kd.R_alloc | apply Kd.R_drewN | apply Kd.R_drew)); exact (Kd.R_mono (rw3 (Kd.R_types HO_7.out BK495.out (by decide))) (fun _ h_ => h_.1))) hb); replace HO_11 := asd (Kd.R_below (by (with_reducible repeat (first | apply Kd.R_alloc | apply Kd.R_drewN | apply Kd.R_drew)); exact (Kd.R_mono (rw3 (Kd.R_types HO_11.out BK495.out (by decide))) (fun _ h_ => h_.1))) hb); replace HO493 := asd (Kd.R_below (by (with_reducible repeat (first | apply Kd.R_alloc | apply Kd.R_drewN | apply Kd.R_drew)); exact (Kd.R_mono (rw3 (Kd.R_types HO493.out BK495.out (by decide))) (fun _ h_ => h_.1))) hb); replace BK472 := asd (blk_below (g := gb472) (o := .cells #[.int .i64 t465, .int .i64 t466, .int .i64 t467] 23 (0, 0)) (bq1 BK472 NB472_495) hb); replace BK481 := asd (blk_below (g := gb481) (o := .cells #[.int .i64 t474, .int .i64 t475, .int .i64 t476] 23 (0, 0)) (bq1 BK481 NB481_495) hb); replace BK495 := asd (blk_below (g := gb495) (o := .cells #[.int .i64 t488, .int .i64 t489, .int .i64 t490] 23 (0, 0)) (bq0 BK495) hb); replace HB := bS3 HB GE472 GE481 GE495 hb; (try clear hb)))
          go_meet
          case rel => exact ⟨_, (true), (by first | rfl | (simp; done) | (simp [*]; done)), H', ⟨by have := HJ5.out; first | omega | exact Nat.le_refl _⟩, ⟨by (with_reducible repeat (first | apply Kd.R_alloc | apply Kd.R_drewN | apply Kd.R_drew)); exact Kd.R_mono HO_11.out (fun _ hk => trivial)⟩, ⟨bkp BK472⟩, ⟨bkp BK481⟩, ⟨bkp BK495⟩, ⟨bbw3 HB GE472 GE481 GE495⟩⟩
         all_goals
          go_wp2_with (first | (go_at_call 6; (with_reducible refine (laws_eqLattice.calls _ _ _ _ _ _ _ _ A52.out).mono ?_); rintro e w61 ⟨rfl, hb⟩; replace HO_7 := asd (Kd.R_below (by (with_reducible repeat (first | apply Kd.R_alloc | apply Kd.R_drewN | apply Kd.R_drew)); exact (Kd.R_mono (rw3 (Kd.R_types HO_7.out BK495.out (by decide))) (fun _ h_ => h_.1))) hb); replace HO_11 := asd (Kd.R_below (by (with_reducible repeat (first | apply Kd.R_alloc | apply Kd.R_drewN | apply Kd.R_drew)); exact (Kd.R_mono (rw3 (Kd.R_types HO_11.out BK495.out (by decide))) (fun _ h_ => h_.1))) hb); replace HO493 := asd (Kd.R_below (by (with_reducible repeat (first | apply Kd.R_alloc | apply Kd.R_drewN | apply Kd.R_drew)); exact (Kd.R_mono (rw3 (Kd.R_types HO493.out BK495.out (by decide))) (fun _ h_ => h_.1))) hb); replace BK472 := asd (blk_below (g := gb472) (o := .cells #[.int .i64 t465, .int .i64 t466, .int .i64 t467] 23 (0, 0)) (bq1 BK472 NB472_495) hb); replace BK481 := asd (blk_below (g := gb481) (o := .cells #[.int .i64 t474, .int .i64 t475, .int .i64 t476] 23 (0, 0)) (bq1 BK481 NB481_495) hb); replace BK495 := asd (blk_below (g := gb495) (o := .cells #[.int .i64 t488, .int .i64 t489, .int .i64 t490] 23 (0, 0)) (bq0 BK495) hb); replace HB := bS3 HB GE472 GE481 GE495 hb; (try clear hb); obtain ⟨Ao62, co62, eo62⟩ := Kd.R_slice HO493.out; subst eo62; obtain ⟨Ao63, co63, eo63⟩ := Kd.R_slice HO_7.out; subst eo63) | (go_at_call 7; (with_reducible refine (laws_eqMotionS.calls _ _ _ _ _ _ _ _ _ ?side1 ?side2 ?side3 ?side4 A54.out).mono ?_); (case side1 => exact ks (Kd.R_reads' HO493.out).2.2); (case side2 => exact (Kd.R_reads' HO493.out).2.1); (case side3 => exact ks (Kd.R_reads' HO_7.out).2.2); (case side4 => exact (Kd.R_reads' HO_7.out).2.1); rintro e w64 ⟨rfl, hb⟩; replace HO_7 := asd (Kd.R_below (kr HO_7) hb); replace HO_11 := asd (Kd.R_below (kr HO_11) hb); replace HO493 := asd (Kd.R_below (kr HO493) hb); replace BK472 := bB BK472 hb; replace BK481 := bB BK481 hb; replace BK495 := bB BK495 hb; replace HB := bS3 HB GE472 GE481 GE495 hb; (try clear hb)))
          go_meet
         ·case rel => exact ⟨_, ((t494 != t471)), (by first | rfl | (simp; done) | (simp [*]; done)), H', ⟨by have := HJ5.out; first | omega | exact Nat.le_refl _⟩, ⟨by (with_reducible repeat (first | apply Kd.R_alloc | apply Kd.R_drewN | apply Kd.R_drew)); exact Kd.R_mono HO_11.out (fun _ hk => trivial)⟩, ⟨bkp BK472⟩, ⟨bkp BK481⟩, ⟨bkp BK495⟩, ⟨bbw3 HB GE472 GE481 GE495⟩⟩
         ·case rel => exact ⟨_, (true), (by first | rfl | (simp; done) | (simp [*]; done)), H', ⟨by have := HJ5.out; first | omega | exact Nat.le_refl _⟩, ⟨by (with_reducible repeat (first | apply Kd.R_alloc | apply Kd.R_drewN | apply Kd.R_drew)); exact Kd.R_mono HO_11.out (fun _ hk => trivial)⟩, ⟨bkp BK472⟩, ⟨bkp BK481⟩, ⟨bkp BK495⟩, ⟨bbw3 HB GE472 GE481 GE495⟩⟩
        ·rw [if_neg c51] at H
         have c51b0 : (t487 == t464) = false := beq_eq_false_iff_ne.mpr c51
         have c51b1 : (t487 != t464) = true := bne_iff_ne.mpr c51
         (first | rw [c51b0] | (simp only [i64_w, i32_w]; rw [c51b0]) | skip)
         have H' := Aside0.mk H
         clear H
         go_wp2
         go_meet
         case rel => exact ⟨_, (true), (by first | rfl | (simp; done) | (simp [*]; done)), H', ⟨by have := HJ5.out; first | omega | exact Nat.le_refl _⟩, ⟨by (with_reducible repeat (first | apply Kd.R_alloc | apply Kd.R_drewN | apply Kd.R_drew)); exact Kd.R_mono (rw3 (Kd.R_types HO_11.out BK495.out (by decide))) (fun _ hk => trivial)⟩, ⟨bq1 BK472 NB472_495⟩, ⟨bq1 BK481 NB481_495⟩, ⟨bq0 BK495⟩, ⟨bbw3 HB GE472 GE481 GE495⟩⟩
       case rest =>
        clear HC43
        try clear c1
        try clear c2
        try clear p2
        try clear c3
        try clear c3b0
        try clear c3b1
        try clear c4
        try clear c5
        try clear c6
        try clear c7
        try clear c8
        try clear c9
        try clear c12
        try clear c14
        try clear c14b0
        try clear c14b1
        try clear c16
        try clear c18
        try clear c19
        try clear c26
        try clear c33
        try clear c37
        try clear c40
        try clear c40b0
        try clear c41
        try clear c41b0
        try clear c41b1
        try clear c48
        try clear c49
        try clear c51
        try clear c51b0
        try clear c51b1
        try clear c53
        try clear c55
        try clear c56
        try clear c57
        try clear c59
        try clear c65
        try clear c66
        try clear c68
        try clear c74
        try clear c75
        try clear c77
        try clear hcz13_0
        try clear hcz13_1
        try clear hcz13_2
        try clear hcz20_0
        try clear hcz20_1
        try clear hcz20_2
        try clear hcz21_0
        try clear hcz21_1
        try clear hcz21_2
        try clear hcz27_0
        try clear hcz27_1
        try clear hcz27_2
        try clear hcz28_0
        try clear hcz28_1
        try clear hcz28_2
        try clear hcz34_0
        try clear hcz34_1
        try clear hcz34_2
        try clear hcz35_0
        try clear hcz35_1
        try clear hcz35_2
        try clear hcz50_0
        try clear hcz50_1
        try clear hcz50_2
        try clear hcz58_0
        try clear hcz58_1
        try clear hcz58_2
        try clear hcz60_0
        try clear hcz60_1
        try clear hcz60_2
        try clear hcz67_0
        try clear hcz67_1
        try clear hcz67_2
        try clear hcz69_0
        try clear hcz69_1
        try clear hcz69_2
        try clear hcz76_0
        try clear hcz76_1
        try clear hcz76_2
        try clear hcz78_0
        try clear hcz78_1
        try clear hcz78_2
        try clear hcz9_0
        try clear hcz9_1
        try clear hcz9_2
        try clear hfz13_0
        try clear hfz13_1
        try clear hfz13_2
        try clear hfz20_0
        try clear hfz20_1
        try clear hfz20_2
        try clear hfz21_0
        try clear hfz21_1
        try clear hfz21_2
        try clear hfz27_0
        try clear hfz27_1
        try clear hfz27_2
        try clear hfz28_0
        try clear hfz28_1
        try clear hfz28_2
        try clear hfz34_0
        try clear hfz34_1
        try clear hfz34_2
        try clear hfz35_0
        try clear hfz35_1
        try clear hfz35_2
        try clear hfz50_0
        try clear hfz50_1
        try clear hfz50_2
        try clear hfz58_0
        try clear hfz58_1
        try clear hfz58_2
        try clear hfz60_0
        try clear hfz60_1
        try clear hfz60_2
        try clear hfz67_0
        try clear hfz67_1
        try clear hfz67_2
        try clear hfz69_0
        try clear hfz69_1
        try clear hfz69_2
        try clear hfz76_0
        try clear hfz76_1
        try clear hfz76_2
        try clear hfz78_0
        try clear hfz78_1
        try clear hfz78_2
        try clear hfz9_0
        try clear hfz9_1
        try clear hfz9_2
        try clear p2
        obtain ⟨kq, x96_42, rfl, HA, HJ42, HO_11, BK472, BK481, BK495, HB⟩ := hcut
        have hl11_42 := (Kd.R_reads' HO_11.out).1
        rw [hl11_42] at HO_11
        (try simp only [hl11_42])
        (try simp only [hl11_42] at BK472)
        (try simp only [hl11_42] at BK481)
        (try simp only [hl11_42] at BK495)
        cases kq with
        | zero => exact absurd HA.out (by simp [laws_FnExactStandardGroup.j1])
        | succ kj42 =>
         have H := HA.out
         clear HA
         simp only [laws_FnExactStandardGroup.j1] at H
         by_cases c80 : x96_42 = true
         ·subst c80
          replace H := ifT H
          exact absurd H (by simp)
         ·replace c80 := Bool.eq_false_iff.mpr c80
          subst c80
          replace H := ifF H
          obtain ⟨t498, A81, H⟩ := ob H
          try dsimp only at H
          by_cases c82 : t498 < 0
          ·rw [if_pos c82] at H
           have c82b0 := decide_eq_true c82
           clear c82
           exact absurd H (by simp)
          ·rw [if_neg c82] at H
           have c82b0 := decide_eq_false c82
           clear c82
           by_cases c83 : t498 = t484
           ·rw [if_pos c83] at H
            have c83b0 : (t498 == t484) = true := beq_iff_eq.mpr c83
            have c83b1 : (t498 != t484) = false := bne_eq_false_iff_eq.mpr c83
            clear c83
            clear H
            go_wp2_with (first | ((with_reducible refine gate_callee (f := 9) rfl ?_); refine gl 99 Try.func9 #[.slice Ao44 t485.length co44, .int .i64 1] ?_; (with_reducible refine (laws_heldMotionS.calls _ _ _ _ _ _ _ ?side1 ?side2 A81.out).mono ?_); (case side1 => exact ks (Kd.R_reads' HO_11.out).2.2); (case side2 => exact (Kd.R_reads' HO_11.out).2.1); rintro e w' ⟨rfl, ⟨nd, rfl⟩⟩; refine ⟨_, rfl, ?_⟩))
            go_ret
            exact er (bbw3 HB GE472 GE481 GE495)
           ·rw [if_neg c83] at H
            have c83b0 : (t498 == t484) = false := beq_eq_false_iff_ne.mpr c83
            have c83b1 : (t498 != t484) = true := bne_iff_ne.mpr c83
            exact absurd H (by simp)
      ·rw [if_neg c41] at H
       have c41b0 : (t486 == t484) = false := beq_eq_false_iff_ne.mpr c41
       have c41b1 : (t486 != t484) = true := bne_iff_ne.mpr c41
       exact absurd H (by simp)

/-- The one plain statement of laws_FnExactStandardGroup. -/
def laws_FnExactStandardGroup.Pure : Prop := ∀ (a0 : ByteArray) (a1 : Int), a0.size ≤ 140737488351232 → (Lit.int .i64 a1).wf = true → ∃ k, laws_FnExactStandardGroup.f k a0 a1 = some true
end Go.Proofs.Ytdodghjnlekgeaa.PA
