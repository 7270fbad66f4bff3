import Derived.Test.YtdodghjnlekgeaaGreatPAx0
import Derived.Test.YtdodghjnlekgeaaGreatPAx2
import Derived.Test.YtdodghjnlekgeaaGreatPAx3
import Derived.Test.YtdodghjnlekgeaaGreatPAx10
import Derived.Test.YtdodghjnlekgeaaGreatPAx14
namespace Go.Proofs.YtdodghjnlekgeaaGreat.PA
open Go.RowKit Go.Proofs.YtdodghjnlekgeaaGreatW.PrintWords Go.Proofs.YtdodghjnlekgeaaGreatW.PrintLast Go.Proofs.YtdodghjnlekgeaaGreatW.PrintMore
attribute [local go_sem] max2_int min2_int max_two min_two max_three min_three max_four min_four   -- for this text's walks alone
set_option linter.unusedVariables false
set_option maxHeartbeats 8000000
set_option maxRecDepth 100000
set_option linter.unusedSimpArgs false
attribute [local go_sem high] eqA46
def impl_within.f (a0 : Int) (a1 : Int) (a2 : Int) : Option (Bool) := if a0 ≥ a1 then (some (decide (a0 ≤ a2))) else (some false)
theorem impl_within.calls (a0 : Int) (a1 : Int) (a2 : Int) (r : Bool) (w : World) (h : impl_within.f a0 a1 a2 = some r) :
  Calls Tryz.prog 99 #[.int .i64 a0, .int .i64 a1, .int .i64 a2] w fun e w' => e = .returned (.bool r) ∧ Drawn0 w w' := by
 have H : (if a0 ≥ a1 then (some (decide (a0 ≤ a2))) else (some false)) = some r := h
 clear h
 by_cases c4 : a0 ≥ a1
 ·rw [if_pos c4] at H
  have c4b0 : decide (a1 ≤ a0) = true := decide_eq_true c4
  clear c4
  obtain rfl := Option.some.inj H
  go_enter Tryz.func99, Tryz.ntmps99
  go_wp2
  go_ret
  exact ⟨by first | rfl | (simp; done) | (simp [*]; done), by repeat (first | exact Drawn0.refl _ | apply Drawn0.step)⟩
 ·rw [if_neg c4] at H
  have c4b0 : decide (a1 ≤ a0) = false := decide_eq_false c4
  clear c4
  obtain rfl := Option.some.inj H
  go_enter Tryz.func99, Tryz.ntmps99
  go_wp2
  go_ret
  exact ⟨by first | rfl | (simp; done) | (simp [*]; done), by repeat (first | exact Drawn0.refl _ | apply Drawn0.step)⟩
def impl_IsFrame.f (a0 : Int) : Option (Bool) := (impl_within.f a0 0 1).bind fun t503 => (some t503)
theorem impl_IsFrame.calls (a0 : Int) (r : Bool) (w : World) (h : impl_IsFrame.f a0 = some r) :
  Calls Tryz.prog 66 #[.int .i64 a0] w fun e w' => e = .returned (.bool r) ∧ Drawn0 w w' := by
 have H : ((impl_within.f a0 0 1).bind fun t503 => (some t503)) = some r := h
 clear h
 obtain ⟨t503, A2, H⟩ := ob H
 try dsimp only at H
 obtain rfl := Option.some.inj H
 go_enter Tryz.func66, Tryz.ntmps66
 go_wp2_with (first | ((with_reducible refine gate_callee (f := 99) rfl ?_); refine gl 4 Tryz.func99 #[.int .i64 a0, .int .i64 0, .int .i64 1] ?_; (with_reducible refine (impl_within.calls _ _ _ _ _ A2.out).mono ?_); rintro e w' ⟨rfl, ⟨nd, rfl⟩⟩; refine ⟨_, rfl, ?_⟩))
 go_ret
 exact ⟨by first | rfl | (simp; done) | (simp [*]; done), by repeat (first | exact Drawn0.refl _ | apply Drawn0.step)⟩
def impl_Lattice_index.f (a0_0 : Int) (a0_1 : Int) (a0_2 : Int) : Option (Int) := some (wrap64 (a0_0 * a0_2))
theorem impl_Lattice_index.calls (a0_0 : Int) (a0_1 : Int) (a0_2 : Int) (r : Int) (w : World) (h : impl_Lattice_index.f a0_0 a0_1 a0_2 = some r) :
  Calls Tryz.prog 100 #[.agg #[.int .i64 a0_0, .int .i64 a0_1, .int .i64 a0_2]] w fun e w' => e = .returned (.int .i64 r) ∧ Below w.heap.size w w' := by
 have hu29 := Tryz.underlying29
 have HB := asd (Below.refl w.heap.size w)
 have H : (some (wrap64 (a0_0 * a0_2))) = some r := h
 clear h
 obtain rfl := Option.some.inj H
 go_enter Tryz.func100, Tryz.ntmps100
 go_wp2_with (first | ((with_reducible refine gd 1 rfl ?_); refine bx #[.int .i64 a0_0, .int .i64 a0_1, .int .i64 a0_2] 29 ?_; intro gb504 hg w2 BK504 hb; have GE504 := ngw0 hg HB; replace HB := bS0 HB hb; clear hb hg; obtain ⟨hcz3_0, hcz3_1, hcz3_2, hfz3_0, hfz3_1, hfz3_2⟩ := bz3 BK504))
 go_ret
 exact er (bbw1 HB GE504)
def impl_IsLattice.f (a0_0 : Int) (a0_1 : Int) (a0_2 : Int) : Option (Bool) := (impl_within.f a0_0 1 64).bind fun t506 => (if t506 = true then ((impl_within.f a0_2 1 64).bind fun t507 => (if t507 = true then ((impl_within.f a0_1 0 (wrap64 (a0_0 - 1))).bind fun t508 => (if t508 = true then ((impl_Lattice_index.f a0_0 a0_1 a0_2).bind fun t509 => (some (decide (t509 ≤ 64)))) else (some false))) else (some false))) else (some false))
theorem impl_IsLattice.calls (a0_0 : Int) (a0_1 : Int) (a0_2 : Int) (r : Bool) (w : World) (h : impl_IsLattice.f a0_0 a0_1 a0_2 = some r) :
  Calls Tryz.prog 67 #[.agg #[.int .i64 a0_0, .int .i64 a0_1, .int .i64 a0_2]] w fun e w' => e = .returned (.bool r) ∧ Below w.heap.size w w' := by
 have hu29 := Tryz.underlying29
 have HB := asd (Below.refl w.heap.size w)
 have H : ((impl_within.f a0_0 1 64).bind fun t506 => (if t506 = true then ((impl_within.f a0_2 1 64).bind fun t507 => (if t507 = true then ((impl_within.f a0_1 0 (wrap64 (a0_0 - 1))).bind fun t508 => (if t508 = true then ((impl_Lattice_index.f a0_0 a0_1 a0_2).bind fun t509 => (some (decide (t509 ≤ 64)))) else (some false))) else (some false))) else (some false))) = some r := h
 clear h
 obtain ⟨t506, A2, H⟩ := ob H
 try dsimp only at H
 by_cases c3 : t506 = true
 subst c3
 replace H := ifT H
 obtain ⟨t507, A4, H⟩ := ob H
 try dsimp only at H
 by_cases c5 : t507 = true
 subst c5
 replace H := ifT H
 obtain ⟨t508, A6, H⟩ := ob H
 try dsimp only at H
 by_cases c7 : t508 = true
 subst c7
 replace H := ifT H
 obtain ⟨t509, A8, H⟩ := ob H
 try dsimp only at H
 obtain rfl := Option.some.inj H
 rotate_left
 replace c7 := Bool.eq_false_iff.mpr c7
 subst c7
 replace H := ifF H
 obtain rfl := Option.some.inj H
 rotate_left
 replace c5 := Bool.eq_false_iff.mpr c5
 subst c5
 replace H := ifF H
 obtain rfl := Option.some.inj H
 rotate_left
 replace c3 := Bool.eq_false_iff.mpr c3
 subst c3
 replace H := ifF H
 obtain rfl := Option.some.inj H
 rotate_left
 all_goals
  go_enter Tryz.func67, Tryz.ntmps67
  go_wp2_with (first | ((with_reducible refine gd 1 rfl ?_); refine bx #[.int .i64 a0_0, .int .i64 a0_1, .int .i64 a0_2] 29 ?_; intro gb505 hg w9 BK505 hb; have GE505 := ngw0 hg HB; replace HB := bS0 HB hb; clear hb hg; obtain ⟨hcz10_0, hcz10_1, hcz10_2, hfz10_0, hfz10_1, hfz10_2⟩ := bz3 BK505) | ((with_reducible refine gate_callee (f := 99) rfl ?_); refine gl 5 Tryz.func99 #[.int .i64 a0_0, .int .i64 1, .int .i64 64] ?_; (with_reducible refine (impl_within.calls _ _ _ _ _ A2.out).mono ?_); rintro e w' ⟨rfl, ⟨nd, rfl⟩⟩; refine ⟨_, rfl, ?_⟩) | (go_at_call 99; (with_reducible refine (impl_within.calls _ _ _ _ _ A4.out).mono ?_); rintro e w' ⟨rfl, ⟨nd, rfl⟩⟩) | (go_at_call 99; (with_reducible refine (impl_within.calls _ _ _ _ _ A6.out).mono ?_); rintro e w' ⟨rfl, ⟨nd, rfl⟩⟩) | (go_at_call 100; (with_reducible refine (impl_Lattice_index.calls _ _ _ _ _ A8.out).mono ?_); rintro e w11 ⟨rfl, hb⟩; replace BK505 := bB BK505 hb; replace HB := bS1 HB GE505 hb; (try clear hb)))
  go_ret
  exact er (bbw1 HB GE505)
def impl_frameCode.f (a0 : Int) (a1_0 : Int) (a1_1 : Int) (a1_2 : Int) : Option (Int) := (impl_IsFrame.f a0).bind fun t511 => (if t511 = true then ((impl_IsLattice.f a1_0 a1_1 a1_2).bind fun t512 => (if t512 = true then (some 0) else (some 1))) else (some 1))
theorem impl_frameCode.calls (a0 : Int) (a1_0 : Int) (a1_1 : Int) (a1_2 : Int) (r : Int) (w : World) (h : impl_frameCode.f a0 a1_0 a1_1 a1_2 = some r) :
  Calls Tryz.prog 33 #[.int .i64 a0, .agg #[.int .i64 a1_0, .int .i64 a1_1, .int .i64 a1_2]] w fun e w' => e = .returned (.int .i64 r) ∧ Below w.heap.size w w' := by
 have hu29 := Tryz.underlying29
 have HB := asd (Below.refl w.heap.size w)
 have H : ((impl_IsFrame.f a0).bind fun t511 => (if t511 = true then ((impl_IsLattice.f a1_0 a1_1 a1_2).bind fun t512 => (if t512 = true then (some 0) else (some 1))) else (some 1))) = some r := h
 clear h
 obtain ⟨t511, A3, H⟩ := ob H
 try dsimp only at H
 by_cases c4 : t511 = true
 subst c4
 replace H := ifT H
 obtain ⟨t512, A5, H⟩ := ob H
 try dsimp only at H
 by_cases c6 : t512 = true
 subst c6
 replace H := ifT H
 obtain rfl := Option.some.inj H
 rotate_left
 replace c6 := Bool.eq_false_iff.mpr c6
 subst c6
 replace H := ifF H
 obtain rfl := Option.some.inj H
 rotate_left
 replace c4 := Bool.eq_false_iff.mpr c4
 subst c4
 replace H := ifF H
 obtain rfl := Option.some.inj H
 rotate_left
 all_goals
  go_enter Tryz.func33, Tryz.ntmps33
 rotate_left 2
 ·go_wp2_with (first | ((with_reducible refine gd 3 rfl ?_); refine bx #[.int .i64 a1_0, .int .i64 a1_1, .int .i64 a1_2] 29 ?_; intro gb510 hg w13 BK510 hb; have GE510 := ngw0 hg HB; replace HB := bS0 HB hb; clear hb hg) | ((with_reducible refine gate_callee (f := 66) rfl ?_); refine gl 6 Tryz.func66 #[.int .i64 a0] ?_; (with_reducible refine (impl_IsFrame.calls _ _ _ A3.out).mono ?_); rintro e w' ⟨rfl, ⟨nd, rfl⟩⟩; refine ⟨_, rfl, ?_⟩))
  go_ret
  exact er (bbw1 HB GE510)
 all_goals
  go_wp2_with (first | ((with_reducible refine gd 3 rfl ?_); refine bx #[.int .i64 a1_0, .int .i64 a1_1, .int .i64 a1_2] 29 ?_; intro gb510 hg w7 BK510 hb; have GE510 := ngw0 hg HB; replace HB := bS0 HB hb; clear hb hg) | ((with_reducible refine gate_callee (f := 66) rfl ?_); refine gl 6 Tryz.func66 #[.int .i64 a0] ?_; (with_reducible refine (impl_IsFrame.calls _ _ _ A3.out).mono ?_); rintro e w' ⟨rfl, ⟨nd, rfl⟩⟩; refine ⟨_, rfl, ?_⟩; have hcz8_0 : w7.cell? ⟨gb510, 0, none⟩ = some (.int .i64 a1_0) := bcl BK510 0; have hcz8_1 : w7.cell? ⟨gb510, 1, none⟩ = some (.int .i64 a1_1) := bcl BK510 1; have hcz8_2 : w7.cell? ⟨gb510, 2, none⟩ = some (.int .i64 a1_2) := bcl BK510 2; have hfz8_0 := blk_frozen BK510.out 0; have hfz8_1 := blk_frozen BK510.out 1; have hfz8_2 := blk_frozen BK510.out 2) | (go_at_call 67; (with_reducible refine (impl_IsLattice.calls _ _ _ _ _ A5.out).mono ?_); rintro e w9 ⟨rfl, hb⟩; replace BK510 := bB BK510 hb; replace HB := bS1 HB GE510 hb; (try clear hb)))
  go_ret
  exact er (bbw1 HB GE510)
def impl_Mat_101.l0 : Nat → List (S46) → Int → Int → Int → Int → Int → Int → Option (Int)
 | 0, _, _, _, _, _, _, _ => none
 | k + 1, x0, x7, x8, x514000, x514001, x514002, x514003 => if x8 < x7 then (if 0 ≤ x8 then (if x8 < (x0.length : Int) then (if (x514000 == ((rd_T46 x0 x8).f0) && (x514001 == ((rd_T46 x0 x8).f1) && (x514002 == ((rd_T46 x0 x8).f2) && (x514003 == ((rd_T46 x0 x8).f3))))) = true then (some x8) else (impl_Mat_101.l0 k x0 x7 (wrap64 (x8 + 1)) x514000 x514001 x514002 x514003)) else (none)) else (none)) else (some (-1))
def impl_Mat_101.f (k : Nat) (l0 : List (S46)) (a1_0 : Int) (a1_1 : Int) (a1_2 : Int) (a1_3 : Int) : Option (Int) := impl_Mat_101.l0 k l0 (l0.length : Int) 0 a1_0 a1_1 a1_2 a1_3
theorem impl_Mat_101.calls (k : Nat) (A0 : Option Addr) (c0 : Nat) (l0 : List (S46)) (a1_0 : Int) (a1_1 : Int) (a1_2 : Int) (a1_3 : Int) (r : Int) (w : World) (hr0 : Kd.C k46 w A0 l0.length l0) (hc0 : l0.length ≤ c0) (h : impl_Mat_101.f k l0 a1_0 a1_1 a1_2 a1_3 = some r) :
  Calls Tryz.prog 101 #[.slice A0 l0.length c0, .agg #[.int .i64 a1_0, .int .i64 a1_1, .int .i64 a1_2, .int .i64 a1_3]] w fun e w' => e = .returned (.int .i64 r) ∧ Below w.heap.size w w' := by
 have hu46 := Tryz.underlying46
 have HR0 := Aside0.mk hr0
 have HC0 := Aside0.mk hc0
 clear hr0 hc0
 have HB := asd (Below.refl w.heap.size w)
 have H : (impl_Mat_101.l0 k l0 (l0.length : Int) 0 a1_0 a1_1 a1_2 a1_3) = some r := h
 clear h
 have H' := Aside0.mk H
 clear H
 go_enter Tryz.func101, Tryz.ntmps101
 go_wp2_with (first | ((with_reducible refine gd 3 rfl ?_); refine bx #[.int .i64 a1_0, .int .i64 a1_1, .int .i64 a1_2, .int .i64 a1_3] 46 ?_; intro gb513 hg w3 BK513 hb; have GE513 := ngw0 hg HB; replace HB := bS0 HB hb; clear hb hg))
 repeat (go_quiet (first | ((with_reducible refine gd 3 rfl ?_); refine bx #[.int .i64 a1_0, .int .i64 a1_1, .int .i64 a1_2, .int .i64 a1_3] 46 ?_; intro gb513 hg w3 BK513 hb; have GE513 := ngw0 hg HB; replace HB := bS0 HB hb; clear hb hg)); try go_wp2_with (first | ((with_reducible refine gd 3 rfl ?_); refine bx #[.int .i64 a1_0, .int .i64 a1_1, .int .i64 a1_2, .int .i64 a1_3] 46 ?_; intro gb513 hg w3 BK513 hb; have GE513 := ngw0 hg HB; replace HB := bS0 HB hb; clear hb hg)))
 go_loopg [8] k (fun kq v8 w' => ∃ (x8_1 : Int), v8 = .int .i64 x8_1 ∧ Aside0 (impl_Mat_101.l0 kq l0 (l0.length : Int) x8_1 a1_0 a1_1 a1_2 a1_3 = some r) ∧ Aside0 (kq ≤ k) ∧ Aside0 (w'.heap[gb513]? = some (.cells #[.int .i64 a1_0, .int .i64 a1_1, .int .i64 a1_2, .int .i64 a1_3] 46 (0, 0))) ∧ Aside0 (Below w.heap.size w w'))
 case atStart => exact ⟨(0), (by first | rfl | (simp; done) | (simp [*]; done)), H', ⟨Nat.le_refl _⟩, ⟨bkp BK513⟩, ⟨bbw1 HB GE513⟩⟩
 case round =>
  clear H'
  try clear c1
  try clear p2
  obtain ⟨x8_1, rfl, HA, HK1, BK513, HB⟩ := hrel
  cases gk with
  | zero => exact absurd HA.out (by simp [impl_Mat_101.l0])
  | succ k1 =>
   have H := HA.out
   clear HA
   simp only [impl_Mat_101.l0] at H
   by_cases c4 : x8_1 < (l0.length : Int)
   rw [if_pos c4] at H
   have c4b0 := decide_eq_true c4
   clear c4
   by_cases c5 : 0 ≤ x8_1
   rw [if_pos c5] at H
   have c5b0 := decide_eq_true c5
   clear c5
   by_cases c6 : x8_1 < (l0.length : Int)
   rw [if_pos c6] at H
   have c6b0 := decide_eq_true c6
   clear c6
   by_cases c7 : (a1_0 == ((rd_T46 l0 x8_1).f0) && (a1_1 == ((rd_T46 l0 x8_1).f1) && (a1_2 == ((rd_T46 l0 x8_1).f2) && (a1_3 == ((rd_T46 l0 x8_1).f3))))) = true
   rw [if_pos c7] at H
   have c7b0 := c7
   (try (have c7b1 : decide (a1_0 = ((rd_T46 l0 x8_1).f0) && (a1_1 == ((rd_T46 l0 x8_1).f1) && (a1_2 == ((rd_T46 l0 x8_1).f2) && (a1_3 == ((rd_T46 l0 x8_1).f3))))) = true := by simpa using c7))
   (try (have c7b2 : (a1_0 == ((rd_T46 l0 x8_1).f0) && (a1_1 == ((rd_T46 l0 x8_1).f1) && (a1_2 == ((rd_T46 l0 x8_1).f2) && (a1_3 == ((rd_T46 l0 x8_1).f3))))) = true := by simpa using c7))
   clear c7
   obtain rfl := Option.some.inj H
   rotate_left
   rw [if_neg c7] at H
   have c7b0 : (a1_0 == ((rd_T46 l0 x8_1).f0) && (a1_1 == ((rd_T46 l0 x8_1).f1) && (a1_2 == ((rd_T46 l0 x8_1).f2) && (a1_3 == ((rd_T46 l0 x8_1).f3))))) = false := by simpa using c7
   (try (have c7b1 : decide (a1_0 = ((rd_T46 l0 x8_1).f0) && (a1_1 == ((rd_T46 l0 x8_1).f1) && (a1_2 == ((rd_T46 l0 x8_1).f2) && (a1_3 == ((rd_T46 l0 x8_1).f3))))) = false := by simpa using c7))
   (try (have c7b2 : (a1_0 == ((rd_T46 l0 x8_1).f0) && (a1_1 == ((rd_T46 l0 x8_1).f1) && (a1_2 == ((rd_T46 l0 x8_1).f2) && (a1_3 == ((rd_T46 l0 x8_1).f3))))) = false := by simpa using c7))
   (try (have c7b3 : ¬ (a1_0 = ((rd_T46 l0 x8_1).f0) && (a1_1 == ((rd_T46 l0 x8_1).f1) && (a1_2 == ((rd_T46 l0 x8_1).f2) && (a1_3 == ((rd_T46 l0 x8_1).f3))))) := by simpa using c7))
   clear c7
   have H' := Aside0.mk H
   clear H
   rotate_left
   ·rw [if_neg c6] at H
    exact absurd H (by simp)
   ·rw [if_neg c5] at H
    exact absurd H (by simp)
   rw [if_neg c4] at H
   have c4b0 := decide_eq_false c4
   clear c4
   obtain rfl := Option.some.inj H
   rotate_left
   rotate_left 2
   ·go_wp2
    repeat (go_quiet (fail); try go_wp2)
    go_ret
    exact er (bbw1 HB GE513)
   all_goals
    obtain ⟨hcz8_0, hcz8_1, hcz8_2, hcz8_3, hfz8_0, hfz8_1, hfz8_2, hfz8_3⟩ := bz4 BK513
    obtain ⟨p514, q514, ad514, e514, hx514_0, hx514_1, hx514_2, hx514_3⟩ := at_T46x HR0.out HB x8_1
    cases e514
    go_wp2
    repeat (go_quiet (fail); try go_wp2)
   ·go_ret
    exact er (bbw1 HB GE513)
   ·go_roundg k1
    case measure => have := HK1.out; omega
    case rel => exact ⟨(wrap64 (x8_1 + 1)), (by first | rfl | (simp; done) | (simp [*]; done)), H', ⟨by have := HK1.out; omega⟩, ⟨bkp BK513⟩, ⟨bbw1 HB GE513⟩⟩
def impl_Mat_69.f (k : Nat) (l0 : List (S46)) (a1_0 : Int) (a1_1 : Int) (a1_2 : Int) (a1_3 : Int) : Option (Bool) := (impl_Mat_101.f k l0 a1_0 a1_1 a1_2 a1_3).bind fun t516 => (some (decide (t516 ≥ 0)))
theorem impl_Mat_69.calls (k : Nat) (A0 : Option Addr) (c0 : Nat) (l0 : List (S46)) (a1_0 : Int) (a1_1 : Int) (a1_2 : Int) (a1_3 : Int) (r : Bool) (w : World) (hr0 : Kd.C k46 w A0 l0.length l0) (hc0 : l0.length ≤ c0) (h : impl_Mat_69.f k l0 a1_0 a1_1 a1_2 a1_3 = some r) :
  Calls Tryz.prog 69 #[.slice A0 l0.length c0, .agg #[.int .i64 a1_0, .int .i64 a1_1, .int .i64 a1_2, .int .i64 a1_3]] w fun e w' => e = .returned (.bool r) ∧ Below w.heap.size w w' := by
 have hu46 := Tryz.underlying46
 have HR0 := Aside0.mk hr0
 have HC0 := Aside0.mk hc0
 clear hr0 hc0
 have HB := asd (Below.refl w.heap.size w)
 have H : ((impl_Mat_101.f k l0 a1_0 a1_1 a1_2 a1_3).bind fun t516 => (some (decide (t516 ≥ 0)))) = some r := h
 clear h
 obtain ⟨t516, A3, H⟩ := ob H
 try dsimp only at H
 obtain rfl := Option.some.inj H
 go_enter Tryz.func69, Tryz.ntmps69
 go_wp2_with (first | ((with_reducible refine gd 3 rfl ?_); refine bx #[.int .i64 a1_0, .int .i64 a1_1, .int .i64 a1_2, .int .i64 a1_3] 46 ?_; intro gb515 hg w4 BK515 hb; have GE515 := ngw0 hg HB; replace HB := bS0 HB hb; clear hb hg; obtain ⟨hcz5_0, hcz5_1, hcz5_2, hcz5_3, hfz5_0, hfz5_1, hfz5_2, hfz5_3⟩ := bz4 BK515) | ((with_reducible refine gate_callee (f := 101) rfl ?_); refine gl 7 Tryz.func101 #[.slice A0 l0.length c0, .agg #[.int .i64 a1_0, .int .i64 a1_1, .int .i64 a1_2, .int .i64 a1_3]] ?_; (with_reducible refine (impl_Mat_101.calls _ _ _ _ _ _ _ _ _ _ ?side1 ?side2 A3.out).mono ?_); (case side1 => exact ks (Kd.C_below HR0.out HB.out)); (case side2 => exact HC0.out); rintro e w6 ⟨rfl, hb⟩; refine ⟨_, rfl, ?_⟩; replace BK515 := bB BK515 hb; replace HB := bS1 HB GE515 hb; (try clear hb)))
 go_ret
 exact er (bbw1 HB GE515)
def impl_Lattice_basis.f (a0_0 : Int) (a0_1 : Int) (a0_2 : Int) : Option (Int × Int × Int × Int) := some (a0_0, 0, a0_1, a0_2)
def impl_Lattice_basis.T1 : Bool × List (List Nat × List Nat) := (true, [([], []), ([0], [0]), ([1], [1]), ([], []), ([3], [3]), ([], []), ([5], [5]), ([4, 6], [4, 6]), ([2, 0, 1, 2], [2]), ([7, 8, 0, 1, 2, 3, 4, 5, 6, 7, 8], [7])])
def impl_Lattice_basis.B1 : List Nat := [0, 1, 3, 0, 8, 0, 32, 120, 7, 511]
theorem impl_Lattice_basis.tab1 : rtab .any (opsOf Tryz.f102 1) = impl_Lattice_basis.T1 := by kernel_rfl
theorem impl_Lattice_basis.bits1 : waitsOk impl_Lattice_basis.T1.2 impl_Lattice_basis.B1 = true := by kernel_rfl
theorem impl_Lattice_basis.calls (a0_0 : Int) (a0_1 : Int) (a0_2 : Int) (r1 : Int) (r2 : Int) (r3 : Int) (r4 : Int) (w : World) (h : impl_Lattice_basis.f a0_0 a0_1 a0_2 = some (r1, r2, r3, r4)) :
  Calls Tryz.prog 102 #[.agg #[.int .i64 a0_0, .int .i64 a0_1, .int .i64 a0_2]] w fun e w' => e = .returned (.tuple #[.agg #[.int .i64 r1, .int .i64 r2], .agg #[.int .i64 r3, .int .i64 r4]]) ∧ Below w.heap.size w w' := by
 have hu29 := Tryz.underlying29
 have hu38 := Tryz.underlying38
 have HB := asd (Below.refl w.heap.size w)
 have H : (some (a0_0, 0, a0_1, a0_2)) = some (r1, r2, r3, r4) := h
 clear h
 simp only [Option.some.injEq, Prod.mk.injEq] at H
 obtain ⟨rfl, rfl, rfl, rfl⟩ := H
 go_enter Tryz.func102, Tryz.ntmps102
 try go_wp2_with (first | ((with_reducible refine gd 1 rfl ?_); refine bx #[.int .i64 a0_0, .int .i64 a0_1, .int .i64 a0_2] 29 ?_; intro gb517 hg w2 BK517 hb; have GE517 := ngw0 hg HB; replace HB := bS0 HB hb; clear hb hg) | ((with_reducible refine gd 2 rfl ?_); refine bx #[.int .i64 0, .int .i64 0] 38 ?_; intro gb518 hg w3 BK518 hb; have GE518 := ngw1 hg HB GE517; replace HB := bS1 HB GE517 hb; have NB517_518 := nlt hg BK517; have NB518_517 := nsy (nlt hg BK517); replace BK517 := bB BK517 hb; clear hb hg) | ((with_reducible refine gd 3 rfl ?_); refine bx #[.int .i64 0, .int .i64 0] 38 ?_; intro gb519 hg w4 BK519 hb; have GE519 := ngw2 hg HB GE517 GE518; replace HB := bS2 HB GE517 GE518 hb; have NB517_519 := nlt hg BK517; have NB519_517 := nsy (nlt hg BK517); replace BK517 := bB BK517 hb; have NB518_519 := nlt hg BK518; have NB519_518 := nsy (nlt hg BK518); replace BK518 := bB BK518 hb; clear hb hg))
 replace BK517 := asd (blk_drew BK517.out)
 replace BK518 := asd (blk_drew BK518.out)
 replace BK519 := asd (blk_drew BK519.out)
 replace HB := asd (below_drew1 HB.out)
 refine sh 10 (eb3 BK517) (fun hHeld => ?_); refine with_tabW impl_Lattice_basis.tab1 impl_Lattice_basis.bits1 (fun HT_ HW_ => ?_)
 generalize w4.drew = w5 at BK517 BK518 BK519 HB hHeld ⊢
 refine pu 0 (some 4) (bT 10 1) HT_ ?_
 refine pu 3 (some 7) (bs 10 9) HT_ ?_
 refine pu 5 (some 9) (bs 10 41) HT_ ?_
 refine ta 1 (some 5) (bs 10 43) HT_ HW_ hHeld ?_
 refine pu 2 (some 6) (bs 10 47) HT_ ?_
 refine ta 4 (some 8) (bT 10 6) HT_ HW_ hHeld ?_
 refine ta 6 (some 10) (bT 10 7) HT_ HW_ hHeld ?_
 refine pu 7 (some 11) (bT 10 8) HT_ ?_
 refine ro 8 (none) (bT 10 9) HT_ (fun K hK => ?_)
 have hs6 : w5.cell? ⟨gb518, 0, none⟩ = some (.int .i64 0) := bcl BK518 0
 have hfs6 := blk_frozen BK518.out 0
 have hns6_0 := NB517_518.out
 have hns6_2 := NB519_518.out
 have hms6_0 := NB518_517.out
 have hms6_2 := NB518_519.out
 have hs7 : w5.cell? ⟨gb518, 1, none⟩ = some (.int .i64 0) := bcl BK518 1
 have hfs7 := blk_frozen BK518.out 1
 have hns7_0 := NB517_518.out
 have hns7_2 := NB519_518.out
 have hms7_0 := NB518_517.out
 have hms7_2 := NB518_519.out
 refine skip_ (w1 := ?_) (by rfl) rfl ?_ ?_
 rotate_left
 ·go_simp
  rfl
 refine hK.out _ _ ⟨(cf2 NB517_518 (hHeld.1)), (cf2 NB517_518 (hHeld.2.1)), (cf2 NB517_518 (hHeld.2.2))⟩ (fun hHeld => ?_)
 clear hK K
 refine ro 9 (none) (bT 10 10) HT_ (fun K hK => ?_)
 have hs8 : w5.cell? ⟨gb519, 0, none⟩ = some (.int .i64 0) := bcl BK519 0
 have hfs8 := blk_frozen BK519.out 0
 have hns8_0 := NB517_519.out
 have hns8_1 := NB518_519.out
 have hms8_0 := NB519_517.out
 have hms8_1 := NB519_518.out
 have hs9 : w5.cell? ⟨gb519, 1, none⟩ = some (.int .i64 0) := bcl BK519 1
 have hfs9 := blk_frozen BK519.out 1
 have hns9_0 := NB517_519.out
 have hns9_1 := NB518_519.out
 have hms9_0 := NB519_517.out
 have hms9_1 := NB519_518.out
 refine skip_ (w1 := ?_) (by rfl) rfl ?_ ?_
 rotate_left
 ·go_simp
  rfl
 refine hK.out _ _ ⟨(cf2 NB517_519 (hHeld.1)), (cf2 NB517_519 (hHeld.2.1)), (cf2 NB517_519 (hHeld.2.2))⟩ (fun hHeld => ?_)
 clear hK K
 refine done_ (done_of HT_.out (by kernel_rfl)) ?_
 try go_wp2
 refine bodyPost_ret (results_cc rfl _ _ gb518 gb519 38 38 #[.int .i64 a0_0, .int .i64 0] #[.int .i64 a0_1, .int .i64 a0_2] (0, 0) (0, 0) _ _ rfl (bq1 BK518 NB518_519) Tryz.underlying38 rfl (by kernel_rfl) rfl (bq1 BK519 NB519_518) Tryz.underlying38 rfl (by kernel_rfl)) rfl ?_
 exact er (bbw3 HB GE517 GE518 GE519)
def impl_Mat_120.f (p : S46 → Bool) (l : List S46) : Int := match l.findIdx? p with | some i => i | none => -1
theorem impl_Mat_120.rd_get (l : List S46) (j : Nat) (h : j < l.length) : rd_T46 l (j : Int) = l[j] := by
 unfold rd_T46; rw [Int.toNat_natCast]; simp [List.getD, h]
theorem impl_Mat_120.hit (p : S46 → Bool) (l : List S46) (x : Int) (h0 : 0 ≤ x) (hx : x < l.length) (h : p (rd_T46 l x) = true) (hb : ∀ j : Nat, (j : Int) < x → p (rd_T46 l (j : Int)) = false) : impl_Mat_120.f p l = x := by
 obtain ⟨k, rfl⟩ := Int.eq_ofNat_of_zero_le h0
 have hk : k < l.length := by omega
 rw [impl_Mat_120.rd_get l k hk] at h
 unfold impl_Mat_120.f
 have : l.findIdx? p = some k := by
  rw [List.findIdx?_eq_some_iff_getElem]
  refine ⟨hk, h, fun j hj => ?_⟩
  have := hb j (by omega)
  rw [impl_Mat_120.rd_get l j (by omega)] at this
  simpa using this
 rw [this]
theorem impl_Mat_120.miss (p : S46 → Bool) (l : List S46) (hb : ∀ j : Nat, (j : Int) < l.length → p (rd_T46 l (j : Int)) = false) : impl_Mat_120.f p l = -1 := by
 unfold impl_Mat_120.f
 have : l.findIdx? p = none := by
  rw [List.findIdx?_eq_none_iff]
  intro x hx
  obtain ⟨j, hj, rfl⟩ := List.getElem_of_mem hx
  have := hb j (by omega)
  rw [impl_Mat_120.rd_get l j hj] at this
  exact this
 rw [this]
set_option maxHeartbeats 2000000 in
theorem impl_Mat_120.calls_some (p : S46 → Bool) (g : Nat) (lb : Array Value) (eg : ∀ args w, (callFunc g args).run Tryz.prog w = .ok (.enter g args) w) (ad : Addr) (c : Nat) (l : List S46) (w : World) (hr : Kd.C k46 w (some ad) l.length l)
  (hp : ∀ (x : S46) (W : World), Below w.heap.size w W → Calls Tryz.prog g (#[.agg #[.int .i64 x.f0, .int .i64 x.f1, .int .i64 x.f2, .int .i64 x.f3]] ++ lb) W fun e w' => e = .returned (.bool (p x)) ∧ Below w.heap.size w w') :
  Calls Tryz.prog 120 #[.slice (some ad) l.length c, .func (.func g) #[] lb] w fun e w' => e = .returned (.int .i64 (impl_Mat_120.f p l)) ∧ Below w.heap.size w w' := by
 have hu33 := Tryz.underlying46
 have hbig := Kd.C_max hr
 have HR := Aside0.mk hr
 have HP := Aside0.mk hp
 clear hr hp
 have hbig' : l.length ≤ 9223372036854775807 := hbig
 have HBIG := Aside0.mk hbig'
 clear hbig hbig'
 go_enter Tryz.func120, Tryz.ntmps120
 go_wp2
 go_loopg [5, 8] l.length (fun gg _ s8 wr => ∃ x : Int, s8 = .int .i64 x ∧ Aside0 (0 ≤ x ∧ x ≤ l.length ∧ (l.length : Int) - x ≤ gg) ∧ Aside0 (Below w.heap.size w wr) ∧ Aside0 (∀ j : Nat, (j : Int) < x → p (rd_T46 l (j : Int)) = false))
 case atStart => exact ⟨0, rfl, ⟨by omega⟩, ⟨Below.refl _ w⟩, ⟨fun j hj => absurd hj (by omega)⟩⟩
 case round =>
  obtain ⟨x, rfl, HX, BW, AA⟩ := hrel
  by_cases c4 : x < (l.length : Int)
  ·have c4b0 : decide (x < (l.length : Int)) = true := decide_eq_true c4
   have c5b0 : decide (0 ≤ x) = true := decide_eq_true HX.out.1
   have hcall := HP.out (rd_T46 l x) wr BW.out
   obtain ⟨ad', e', hx0, hx1, hx2, hx3⟩ := at_T46 HR.out x HX.out.1 c4
   cases e'
   replace hx0 := (BW.out.cell (World.block_lt_of_cell? w _ hx0)).trans hx0
   replace hx1 := (BW.out.cell (World.block_lt_of_cell? w _ hx1)).trans hx1
   replace hx2 := (BW.out.cell (World.block_lt_of_cell? w _ hx2)).trans hx2
   replace hx3 := (BW.out.cell (World.block_lt_of_cell? w _ hx3)).trans hx3
   have C4 := Aside0.mk c4
   clear c4
   generalize hy : rd_T46 l x = y at hcall hx0 hx1 hx2 hx3
   have HY := Aside0.mk hy
   clear hy
   have p5 : 0 ≤ x := HX.out.1
   have p215 := eq_true p5
   have q215 : (x < (l.length : Int)) = True := eq_true C4.out
   clear p5
   cases hq : p y with
   | true =>
    rw [hq] at hcall
    have HQ := Aside0.mk hq
    clear hq
    go_wp2_with (go_at_fn g; refine hcall.mono ?_; rintro e w' ⟨rfl, hb'⟩)
    go_ret
    refine ⟨?_, hb'⟩
    rw [impl_Mat_120.hit p l x HX.out.1 C4.out (by rw [HY.out]; exact HQ.out) AA.out]
    rfl
   | false =>
    rw [hq] at hcall
    have HQ := Aside0.mk hq
    clear hq
    go_wp2_with (go_at_fn g; refine hcall.mono ?_; rintro e w' ⟨rfl, hb'⟩)
    have hw : wrap64 (x + 1) = x + 1 := by
     have h1 := HX.out; have h2 := HBIG.out; have h3 := C4.out
     unfold wrap64; omega
    go_roundg ((l.length : Int) - (x + 1)).toNat
    case measure => have h1 := HX.out; have h3 := C4.out; omega
    case rel =>
     refine ⟨wrap64 (x + 1), rfl, ⟨?_⟩, ⟨hb'⟩, ⟨fun j hj => ?_⟩⟩
     ·have h1 := HX.out; have h3 := C4.out; rw [hw]; omega
     ·rw [hw] at hj
      by_cases e : (j : Int) = x
      ·rw [e, HY.out]; exact HQ.out
      ·exact AA.out j (by omega)
  ·have c4b0 : decide (x < (l.length : Int)) = false := decide_eq_false c4
   have hxe : x = l.length := by have := HX.out; omega
   have C4 := Aside0.mk hxe
   clear c4 hxe
   go_wp2
   go_ret
   refine ⟨?_, BW.out⟩
   rw [impl_Mat_120.miss p l (by rw [← C4.out]; exact AA.out)]
   rfl
set_option maxHeartbeats 2000000 in
theorem impl_Mat_120.calls_empty (p : S46 → Bool) (A : Option Addr) (c : Nat) (fv : Value) (w : World) :
  Calls Tryz.prog 120 #[.slice A 0 c, fv] w fun e w' => e = .returned (.int .i64 (impl_Mat_120.f p [])) ∧ Below w.heap.size w w' := by
 go_enter Tryz.func120, Tryz.ntmps120
 go_wp2
 go_loopg [5, 8] 0 (fun _ _ s8 wr => s8 = .int .i64 0 ∧ wr = w)
 case atStart => exact ⟨rfl, rfl⟩
 case round =>
  obtain ⟨rfl, rfl⟩ := hrel
  go_wp2
  go_ret
  exact ⟨rfl, Below.refl _ _⟩
theorem impl_Mat_120.calls (p : S46 → Bool) (g : Nat) (lb : Array Value) (eg : ∀ args w, (callFunc g args).run Tryz.prog w = .ok (.enter g args) w) (A : Option Addr) (c : Nat) (l : List S46) (w : World) (hr : Kd.C k46 w A l.length l)
  (hp : ∀ (x : S46) (W : World), Below w.heap.size w W → Calls Tryz.prog g (#[.agg #[.int .i64 x.f0, .int .i64 x.f1, .int .i64 x.f2, .int .i64 x.f3]] ++ lb) W fun e w' => e = .returned (.bool (p x)) ∧ Below w.heap.size w w') :
  Calls Tryz.prog 120 #[.slice A l.length c, .func (.func g) #[] lb] w fun e w' => e = .returned (.int .i64 (impl_Mat_120.f p l)) ∧ Below w.heap.size w w' := by
 cases l with
 | nil => exact impl_Mat_120.calls_empty p A c _ w
 | cons x xs =>
  obtain ⟨ad, rfl, _⟩ := hr.2.2 (by simp)
  exact impl_Mat_120.calls_some p g lb eg ad c (x :: xs) w hr hp
def impl_Mat_103.Inv (p : S46 → Bool) (l : List S46) (i j : Int) (m : List S46) : Prop :=
 m.length = l.length ∧ m.take i.toNat = (l.take j.toNat).filter (fun x => !p x) ∧ ∀ t : Nat, j ≤ t → rd_T46 m (t : Int) = rd_T46 l (t : Int)
theorem impl_Mat_103.rd_get (l : List S46) (j : Nat) (h : j < l.length) : rd_T46 l (j : Int) = l[j] := by
 unfold rd_T46; rw [Int.toNat_natCast]; simp [List.getD, h]
theorem impl_Mat_103.inv_start (p : S46 → Bool) (l : List S46) (k : Nat) (hk : k < l.length) (h : p l[k] = true) (hb : ∀ (j : Nat) (hj : j < k), p (l[j]'(Nat.lt_trans hj hk)) = false) : impl_Mat_103.Inv p l (k : Int) ((k : Int) + 1) l := by
 refine ⟨rfl, ?_, fun t _ => rfl⟩
 have e : ((k : Int) + 1).toNat = k + 1 := by omega
 rw [Int.toNat_natCast, e, List.take_succ_eq_append_getElem hk, List.filter_append]
 have e2 : (l.take k).filter (fun x => !p x) = l.take k := by
  rw [List.filter_eq_self]
  intro x hx
  obtain ⟨j, hj, rfl⟩ := List.getElem_of_mem hx
  have hj' : j < k := by rw [List.length_take] at hj; omega
  rw [List.getElem_take, hb j hj']; rfl
 rw [e2]; simp [h]
theorem impl_Mat_103.inv_keep (p : S46 → Bool) (l m : List S46) (i j : Int) (h0 : 0 ≤ i) (hij : i < j) (hj : j < l.length) (h : impl_Mat_103.Inv p l i j m) (hp : p (rd_T46 m j) = false) : impl_Mat_103.Inv p l (i + 1) (j + 1) (m.set i.toNat (rd_T46 m j)) := by
 obtain ⟨h1, h2, h3⟩ := h
 obtain ⟨i, rfl⟩ := Int.eq_ofNat_of_zero_le h0
 obtain ⟨j, rfl⟩ := Int.eq_ofNat_of_zero_le (show 0 ≤ j by omega)
 have hjl : j < l.length := by omega
 have him : i < m.length := by omega
 have e1 : ((i : Int) + 1).toNat = i + 1 := by omega
 have e2 : ((j : Int) + 1).toNat = j + 1 := by omega
 have e3 := h3 j (by omega)
 rw [Int.toNat_natCast] at h2 ⊢
 rw [Int.toNat_natCast] at h2
 refine ⟨by simpa using h1, ?_, fun t ht => ?_⟩
 ·rw [e1, e2, List.take_succ_eq_append_getElem hjl, List.filter_append, ← h2, List.take_succ_eq_append_getElem (by simpa using him)]
  rw [e3, impl_Mat_103.rd_get l j hjl] at hp ⊢
  congr 1
  ·rw [List.take_set_of_le (by omega)]
  ·simp [hp]
 ·have := h3 t (by omega)
  unfold rd_T46 at this ⊢
  rw [Int.toNat_natCast] at this ⊢
  simp only [List.getD] at this ⊢
  rw [List.getElem?_set_ne (by omega)]
  exact this
theorem impl_Mat_103.inv_skip (p : S46 → Bool) (l m : List S46) (i j : Int) (h0 : 0 ≤ i) (hij : i < j) (hj : j < l.length) (h : impl_Mat_103.Inv p l i j m) (hp : p (rd_T46 m j) = true) : impl_Mat_103.Inv p l i (j + 1) m := by
 obtain ⟨h1, h2, h3⟩ := h
 obtain ⟨j, rfl⟩ := Int.eq_ofNat_of_zero_le (show 0 ≤ j by omega)
 have hjl : j < l.length := by omega
 have e2 : ((j : Int) + 1).toNat = j + 1 := by omega
 have e3 := h3 j (by omega)
 rw [Int.toNat_natCast] at h2
 refine ⟨h1, ?_, fun t ht => h3 t (by omega)⟩
 rw [e2, List.take_succ_eq_append_getElem hjl, List.filter_append, ← h2]
 rw [e3, impl_Mat_103.rd_get l j hjl] at hp
 simp [hp]
theorem impl_Mat_103.set_cells_append (b : Nat) : ∀ (xs ys : List Value) (o : Nat) (w : World), w.setCells b o (xs ++ ys) = (w.setCells b o xs).setCells b (o + xs.length) ys
 | [], _, _, _ => rfl
 | x :: xs, ys, o, w => by
  have := impl_Mat_103.set_cells_append b xs ys (o + 1) (w.setCell ⟨b, o, none⟩ x)
  rw [List.cons_append, World.setCells, World.setCells, this, List.length_cons]; congr 1; omega
theorem impl_Mat_103.zeros (n : Nat) : (Builtin.zeroCells #[.int .i64 0, .int .i64 0, .int .i64 0, .int .i64 0] n).toList = List.replicate (n * 4) (Value.int .i64 0) := by
 apply List.ext_getElem
 ·simp [Builtin.zeroCells]
 ·intro i h1 h2
  simp only [Builtin.zeroCells, Array.toList_map, Array.toList_range, List.getElem_map, List.getElem_range, List.getElem_replicate]
  have : i % 4 < 4 := Nat.mod_lt _ (by decide)
  have h4 : i % 4 = 0 ∨ i % 4 = 1 ∨ i % 4 = 2 ∨ i % 4 = 3 := by omega
  show (#[Value.int .i64 0, .int .i64 0, .int .i64 0, .int .i64 0] : Array Value)[i % 4]! = _
  rcases h4 with h | h | h | h <;> rw [h] <;> rfl
theorem impl_Mat_103.clear_row {g n cap base : Nat} {ok : Nat → Prop} (d : Nat) : ∀ (W : World) (i : Nat) (xs : List S46), Kd.R k46 46 W base ok (.slice (some ⟨g, 0, none⟩) n cap) xs → i + d = n →
  ∃ xs', xs'.take i = xs.take i ∧ xs'.length = xs.length ∧ Kd.R k46 46 (W.setCells g (i * 4) (List.replicate (d * 4) (.int .i64 0))) base ok (.slice (some ⟨g, 0, none⟩) n cap) xs' ∧ W.grownBy (W.setCells g (i * 4) (List.replicate (d * 4) (.int .i64 0))) (some g) := by
 induction d with
 | zero => intro W i xs h e; exact ⟨xs, rfl, rfl, h, ⟨rfl, rfl, rfl, Nat.le_refl _, fun _ _ _ => rfl⟩⟩
 | succ d ih =>
  intro W i xs h e
  have hn := (Kd.R_reads' h).1
  obtain ⟨ce, hcl, hM, hcc, hfr⟩ := Kd.R_elem h z46 (i : Int) (by omega) (by omega)
  have HP := Kd.R_seg h (i : Int) (by omega) (by omega) (seg := [.int .i64 0, .int .i64 0, .int .i64 0, .int .i64 0]) (j := 0) hcl hcc (show 4 ≤ 4 from by decide) (x' := z46) (by
   obtain rfl := k46_openM hM
   exact k46_mkM _ _ _ z46) (fun _ hk => hk)
  rw [Int.toNat_natCast] at HP
  obtain ⟨h1, h2⟩ := HP
  obtain ⟨xs', q1, q2, q3, q4⟩ := ih _ (i + 1) _ h1 (by omega)
  have e1 : List.replicate ((d + 1) * 4) (Value.int .i64 0) = [.int .i64 0, .int .i64 0, .int .i64 0, .int .i64 0] ++ List.replicate (d * 4) (.int .i64 0) := by
   rw [show (d + 1) * 4 = 4 + d * 4 by omega, ← List.replicate_append_replicate]; rfl
  have e2 : (W.setCells g (i * 4) (List.replicate ((d + 1) * 4) (.int .i64 0))) = ((W.setCells g (i * (k46).sz + 0) [.int .i64 0, .int .i64 0, .int .i64 0, .int .i64 0]).setCells g ((i + 1) * 4) (List.replicate (d * 4) (.int .i64 0))) := by
   rw [e1, impl_Mat_103.set_cells_append]; congr 1; show i * 4 + 4 = (i + 1) * 4; omega
  rw [e2]
  refine ⟨xs', ?_, by simpa using q2, q3, h2.trans q4⟩
  have := congrArg (List.take i) q1
  rw [List.take_take, List.take_take, Nat.min_eq_left (Nat.le_succ i)] at this
  rw [this, List.take_set_of_le (Nat.le_refl _)]
theorem impl_Mat_103.cells_of_row {g n cap base : Nat} {ok : Nat → Prop} {W : World} {xs : List S46} (h : Kd.R k46 46 W base ok (.slice (some ⟨g, 0, none⟩) n cap) xs) (t : Nat) (ht : t < n * 4) : (W.cell? ⟨g, t, none⟩).isSome = true ∧ W.frozen? ⟨g, t, none⟩ = false := by
 obtain ⟨ce, hcl, hM, hcc, hfr⟩ := Kd.R_elem h z46 ((t / 4 : Nat) : Int) (by omega) (by omega)
 rw [Int.toNat_natCast, show (k46).sz = 4 from rfl] at hcc hfr
 have e : t / 4 * 4 + t % 4 = t := by omega
 have hl : ce.length = 4 := hcl
 have hr : t % 4 < ce.length := by rw [hl]; omega
 have h1 := hcc (t % 4) _ (List.getElem?_eq_getElem hr)
 have h2 := hfr (t % 4)
 rw [e] at h1 h2
 exact ⟨by rw [h1]; rfl, h2⟩
theorem impl_Mat_103.zero_run (W : World) : (zeroValue 46).run Tryz.prog W = .ok (.agg #[.int .i64 0, .int .i64 0, .int .i64 0, .int .i64 0]) W := by
 have := info46
 cases h : Tryz.prog.info? 46 with
 | none => rw [h] at this; cases this
 | some i =>
  rw [h] at this
  simp only [Option.map_some, Option.some.injEq, Prod.mk.injEq] at this
  simp [zeroValue, typeInfo, h, this.1]
theorem impl_Mat_103.clear_run {g n c base : Nat} {ok : Nat → Prop} {W : World} {xs : List S46} (h : Kd.R k46 46 W base ok (.slice (some ⟨g, 0, none⟩) n c) xs) (i : Nat) (hi : i < n) (ty : TypeId) (c' : Nat) :
  (Builtin.clear_ #[90] ty #[.slice (some ⟨g, i * 4, none⟩) (n - i) c']).run Tryz.prog W = .ok (.tuple #[]) (W.setCells g (i * 4) (List.replicate ((n - i) * 4) (.int .i64 0))) := by
 have hst := run_storeCells_cells (P := Tryz.prog) g (i * 4) (List.replicate ((n - i) * 4) (.int .i64 0)) 0 W (fun j hj => (impl_Mat_103.cells_of_row h (i * 4 + 0 + j) (by rw [List.length_replicate] at hj; omega)).1) (fun j hj => (impl_Mat_103.cells_of_row h (i * 4 + 0 + j) (by rw [List.length_replicate] at hj; omega)).2) (by intro v hv; rw [List.eq_of_mem_replicate hv]; rfl)
 simp only [Nat.add_zero] at hst
 have hz := impl_Mat_103.zeros (n - i)
 obtain ⟨q, hq⟩ : ∃ q, n - i = q + 1 := ⟨n - i - 1, by omega⟩
 rw [hq] at hst hz ⊢
 simp [Builtin.clear_, run_underlying Tryz.underlying90, impl_Mat_103.zero_run, Value.cells, hz, hst]
set_option maxHeartbeats 4000000 in
theorem impl_Mat_103.calls (p : S46 → Bool) (g : Nat) (lb : Array Value) (eg : ∀ args w, (callFunc g args).run Tryz.prog w = .ok (.enter g args) w) (P0_ : Nat → Prop) (u0_ : Value) (l : List S46) (w0 w : World) (hB : Below w0.heap.size w0 w) (ho : Kd.R k46 46 w w0.heap.size P0_ u0_ l)
  (hp : ∀ (x : S46) (W : World), Below w0.heap.size w0 W → Kept w W P0_ → Calls Tryz.prog g (#[.agg #[.int .i64 x.f0, .int .i64 x.f1, .int .i64 x.f2, .int .i64 x.f3]] ++ lb) W fun e w' => e = .returned (.bool (p x)) ∧ Below W.heap.size W w') :
  Calls Tryz.prog 103 #[u0_, .func (.func g) #[] lb] w fun e w' => ∃ v', e = .returned v' ∧ Kd.R k46 46 w' w0.heap.size (fun k_ => P0_ k_ ∨ w.heap.size ≤ k_) v' (l.filter fun x => !p x) ∧ Below w0.heap.size w0 w' ∧ Kept w w' P0_ := by
 have hu33 := Tryz.underlying46
 obtain ⟨A0, c0, e0, hlc, hC⟩ := Kd.R_reads ho
 subst e0
 have HI := impl_Mat_120.calls p g lb eg A0 c0 l w hC (fun x W hb => (hp x W (below_then hB hB.size hb) (Kept.of_below hb _)).mono fun e w' ⟨he, hb'⟩ => ⟨he, below_then hb hb.size hb'⟩)
 have HO := asd (show Kd.R k46 46 w w0.heap.size (fun k_ => P0_ k_ ∨ w.heap.size ≤ k_) (.slice A0 l.length c0) l from Kd.R_mono ho (fun k_ hk => .inl hk))
 have HP := Aside0.mk hp
 have HB := Aside0.mk hB
 have HBIG := asd (show l.length ≤ 9223372036854775807 from Kd.C_max hC)
 unfold impl_Mat_120.f at HI
 clear ho hp hB hC hlc
 cases hf : l.findIdx? p with
 | none =>
  rw [hf] at HI
  have hall : (l.filter fun x => !p x) = l := by
   rw [List.filter_eq_self]
   intro x hx
   have := List.findIdx?_eq_none_iff.1 hf x hx
   simp [this]
  rw [hall]
  clear hf hall
  replace HI : Calls Tryz.prog 120 #[.slice A0 l.length c0, .func (.func g) #[] lb] w fun e w' => e = .returned (.int .i64 (-1)) ∧ Below w.heap.size w w' := HI
  go_enter Tryz.func103, Tryz.ntmps103
  go_wp2_with (go_at_call 120; refine HI.mono ?_; rintro e w' ⟨rfl, hb'⟩)
  go_ret
  exact ⟨_, rfl, Kd.R_below HO.out hb', below_then HB.out HB.out.size hb', Kept.of_below hb' _⟩
 | some k =>
  rw [hf] at HI
  obtain ⟨hk, hpk, hbk⟩ := List.findIdx?_eq_some_iff_getElem.1 hf
  have HS := asd (impl_Mat_103.inv_start p l k hk hpk (fun j hj => by simpa using hbk j hj))
  have HK := Aside0.mk hk
  clear hf hpk hbk
  replace HI : Calls Tryz.prog 120 #[.slice A0 l.length c0, .func (.func g) #[] lb] w fun e w' => e = .returned (.int .i64 (k : Int)) ∧ Below w.heap.size w w' := HI
  have hne1 : ((k : Int) == -1) = false := beq_eq_false_iff_ne.2 (by omega)
  obtain ⟨go, co, eo, gb, gl, cl, HG⟩ := Kd.R_form HO.out (by omega)
  injection eo with ea_ en_ ec_
  subst ea_
  subst ec_
  clear en_ gl HG cl
  have HKW := asd (show wrap64 ((k : Int) + 1) = (k : Int) + 1 by have := HBIG.out; unfold wrap64; omega)
  clear hk
  go_enter Tryz.func103, Tryz.ntmps103
  go_wp2_with (go_at_call 120; refine HI.mono ?_; rintro e w' ⟨rfl, hb'⟩)
  go_loopg [5, 6, 7] l.length (fun gg s5 s6 _ wr => ∃ (i j : Int) (m : List S46), s5 = .int .i64 i ∧ s6 = .int .i64 j ∧ Aside0 (0 ≤ i ∧ i < j ∧ j ≤ l.length ∧ (l.length : Int) - j ≤ gg) ∧ Aside0 (impl_Mat_103.Inv p l i j m) ∧ Aside0 (Kd.R k46 46 wr w0.heap.size (fun k_ => P0_ k_ ∨ w.heap.size ≤ k_) (.slice (some ⟨go, 0, none⟩) l.length c0) m) ∧ Aside0 (Kept w wr P0_) ∧ Aside0 (Below w0.heap.size w0 wr))
  case atStart => exact ⟨k, wrap64 ((k : Int) + 1), l, rfl, rfl, ⟨by have := HK.out; rw [HKW.out]; omega⟩, ⟨by rw [HKW.out]; exact HS.out⟩, ⟨Kd.R_below HO.out hb'⟩, ⟨Kept.of_below hb' _⟩, ⟨below_then HB.out HB.out.size hb'⟩⟩
  case round =>
   clear HI
   obtain ⟨i, j, m, rfl, rfl, HX, HV, HR, HKP, HBW⟩ := hrel
   by_cases c4 : j < (l.length : Int)
   ·have c4b0 : decide (j < (l.length : Int)) = true := decide_eq_true c4
    have c5b0 : decide (0 ≤ j) = true := decide_eq_true (by have := HX.out; omega)
    obtain ⟨ce, hcl, hM, hcc, hfr⟩ := Kd.R_elem HR.out z46 j (by have := HX.out; omega) c4
    obtain rfl := k46_openM hM
    have hx0 : wr.cell? ⟨go, j.toNat * 4, none⟩ = some (.int .i64 ((rd_T46 m j).f0)) := hcc 0 _ rfl
    have hx1 : wr.cell? ⟨go, j.toNat * 4 + 1, none⟩ = some (.int .i64 ((rd_T46 m j).f1)) := hcc 1 _ rfl
    have hx2 : wr.cell? ⟨go, j.toNat * 4 + 2, none⟩ = some (.int .i64 ((rd_T46 m j).f2)) := hcc 2 _ rfl
    have hx3 : wr.cell? ⟨go, j.toNat * 4 + 3, none⟩ = some (.int .i64 ((rd_T46 m j).f3)) := hcc 3 _ rfl
    clear hcl hcc hfr hM
    have C4 := Aside0.mk c4
    have p215 : (0 ≤ j) = True := eq_true (by have := HX.out; omega)
    have q215 : (j < (l.length : Int)) = True := eq_true c4
    clear c4
    generalize hy : rd_T46 m j = y at hx0 hx1 hx2 hx3
    have HY := Aside0.mk hy
    clear hy
    have hI : 0 ≤ i ∧ i < (l.length : Int) := by have h1 := HX.out; have h2 := C4.out; omega
    have p300 : (0 ≤ i) = True := eq_true hI.1
    have q300 : (i < (l.length : Int)) = True := eq_true hI.2
    have c6b0 : decide (0 ≤ i) = true := decide_eq_true hI.1
    have c7b0 : decide (i < (l.length : Int)) = true := decide_eq_true hI.2
    have HI := Aside0.mk hI
    clear hI
    have hcall := HP.out y (wr.alloc (.cells #[.int .i64 y.f0, .int .i64 y.f1, .int .i64 y.f2, .int .i64 y.f3] 46)) (below_alloc HBW.out _) (Kept.alloc HKP.out _)
    cases hq : p y with
    | true =>
     rw [hq] at hcall
     have HQ := Aside0.mk hq
     clear hq
     go_wp2_with (go_at_fn g; refine hcall.mono ?_; rintro e w2 ⟨rfl, hb2⟩)
     go_roundg ((l.length : Int) - (j + 1)).toNat
     case measure => have h1 := HX.out; have h3 := C4.out; omega
     case rel =>
      have hw : wrap64 (j + 1) = j + 1 := by
       have h1 := HX.out; have h2 := HBIG.out; have h3 := C4.out
       unfold wrap64; omega
      have hb1 := Kept.below (Kept.alloc HKP.out (.cells #[.int .i64 y.f0, .int .i64 y.f1, .int .i64 y.f2, .int .i64 y.f3] 46)) hb2
      have hbb := below_then (below_alloc HBW.out (.cells #[.int .i64 y.f0, .int .i64 y.f1, .int .i64 y.f2, .int .i64 y.f3] 46)) (below_alloc HBW.out _).size hb2
      refine ⟨i, wrap64 (j + 1), m, rfl, rfl, ⟨?_⟩, ⟨?_⟩, ⟨Kd.R_below (Kd.R_alloc HR.out _) hb2⟩, ⟨hb1⟩, ⟨hbb⟩⟩
      ·have h1 := HX.out; have h3 := C4.out; rw [hw]; omega
      ·rw [hw]; exact impl_Mat_103.inv_skip p l m i j HX.out.1 HX.out.2.1 C4.out HV.out (by rw [HY.out]; exact HQ.out)
    | false =>
     rw [hq] at hcall
     have HQ := Aside0.mk hq
     clear hq
     go_wp2_with (go_at_fn g; refine hcall.mono ?_; rintro e w2 ⟨rfl, hb2⟩; have hz0 : w2.cell? ⟨wr.heap.size, 0, none⟩ = some (.int .i64 y.f0) := (hb2.cell (p := ⟨wr.heap.size, 0, none⟩) (by simp)).trans (by simp); have hz1 : w2.cell? ⟨wr.heap.size, 1, none⟩ = some (.int .i64 y.f1) := (hb2.cell (p := ⟨wr.heap.size, 1, none⟩) (by simp)).trans (by simp); have hz2 : w2.cell? ⟨wr.heap.size, 2, none⟩ = some (.int .i64 y.f2) := (hb2.cell (p := ⟨wr.heap.size, 2, none⟩) (by simp)).trans (by simp); have hz3 : w2.cell? ⟨wr.heap.size, 3, none⟩ = some (.int .i64 y.f3) := (hb2.cell (p := ⟨wr.heap.size, 3, none⟩) (by simp)).trans (by simp); have HR2 := asd (Kd.R_below (Kd.R_alloc HR.out (.cells #[.int .i64 y.f0, .int .i64 y.f1, .int .i64 y.f2, .int .i64 y.f3] 46)) hb2); obtain ⟨ce2, hcl2, hM2, hcc2, hfr2⟩ := Kd.R_elem HR2.out z46 i HI.out.1 HI.out.2; obtain rfl := k46_openM hM2; have hS2 := Kd.R_seg HR2.out i HI.out.1 HI.out.2 (seg := [.int .i64 y.f0, .int .i64 y.f1, .int .i64 y.f2, .int .i64 y.f3]) (j := 0) hcl2 hcc2 (show 4 ≤ 4 from by decide) (x' := y) (k46_mkM _ _ _ y) (fun _ hk => hk); have HS2 := Aside0.mk hS2; clear hS2; have hu0 := hcc2 0 _ rfl; have hu1 := hcc2 1 _ rfl; have hu2 := hcc2 2 _ rfl; have hu3 := hcc2 3 _ rfl; have hv0 := hfr2 0; have hv1 := hfr2 1; have hv2 := hfr2 2; have hv3 := hfr2 3; simp only [show (k46).sz = 4 from rfl, Nat.add_zero] at hu0 hu1 hu2 hu3 hv0 hv1 hv2 hv3; clear hcl2 hcc2 hfr2 hM2)
     go_roundg ((l.length : Int) - (j + 1)).toNat
     case measure => have h1 := HX.out; have h3 := C4.out; omega
     case rel =>
      have hw : wrap64 (j + 1) = j + 1 := by
       have h1 := HX.out; have h2 := HBIG.out; have h3 := C4.out
       unfold wrap64; omega
      have hw2 : wrap64 (i + 1) = i + 1 := by
       have h1 := HX.out; have h2 := HBIG.out; have h3 := C4.out
       unfold wrap64; omega
      have hb1 := Kept.below (Kept.alloc HKP.out (.cells #[.int .i64 y.f0, .int .i64 y.f1, .int .i64 y.f2, .int .i64 y.f3] 46)) hb2
      have hbb := below_then (below_alloc HBW.out (.cells #[.int .i64 y.f0, .int .i64 y.f1, .int .i64 y.f2, .int .i64 y.f3] 46)) (below_alloc HBW.out _).size hb2
      refine ⟨wrap64 (i + 1), wrap64 (j + 1), m.set i.toNat y, rfl, rfl, ⟨?_⟩, ⟨?_⟩, ⟨HS2.out.1⟩, ⟨Kept.of_grown HS2.out.2 hb1 (fun k_ e_ => HR2.out.1 k_ e_)⟩, ⟨?_⟩⟩
      ·have h1 := HX.out; have h3 := C4.out; rw [hw, hw2]; omega
      ·have := impl_Mat_103.inv_keep p l m i j HX.out.1 HX.out.2.1 C4.out HV.out (by rw [HY.out]; exact HQ.out)
       rw [hw, hw2]; rw [HY.out] at this; exact this
      ·exact below_set (below_set (below_set (below_set hbb gb) gb) gb) gb
   ·have c4b0 : decide (j < (l.length : Int)) = false := decide_eq_false c4
    have hje : j = l.length := by have := HX.out; omega
    obtain ⟨i, rfl⟩ := Int.eq_ofNat_of_zero_le HX.out.1
    have hil : i < l.length := by have := HX.out; omega
    have HJ := Aside0.mk hje
    have HIL := Aside0.mk hil
    have hlc := (Kd.R_reads' HR.out).2.1
    have hcl : ∀ ty, (Builtin.clear_ #[90] ty #[.slice (some ⟨go, i * 4, none⟩) (l.length - i) (c0 - i)]).run Tryz.prog wr = .ok (.tuple #[]) (wr.setCells go (i * 4) (List.replicate ((l.length - i) * 4) (.int .i64 0))) := fun ty => impl_Mat_103.clear_run HR.out i hil ty _
    clear c4 hje
    go_wp2
    go_ret
    obtain ⟨xs', q1, q2, q3, q4⟩ := impl_Mat_103.clear_row (l.length - i) wr i m HR.out (by have := HIL.out; omega)
    have hv := HV.out
    have hm := hv.1
    have hR := Kd.R_take q3 (m := i) (by rw [q2, hm]; have := HIL.out; omega)
    have hfin : xs'.take i = l.filter fun x => !p x := by
     have h2 := hv.2.1
     rw [Int.toNat_natCast, HJ.out, Int.toNat_natCast, List.take_length] at h2
     rw [q1, h2]
    rw [hfin] at hR
    exact ⟨_, rfl, hR, HBW.out.grown q4 HBW.out.size (fun k_ e_ => by injection e_ with e_; subst e_; exact gb), Kept.of_grown q4 HKP.out (fun k_ e_ => HR.out.1 k_ e_)⟩
attribute [local go_sem high] eqA38
def impl_norm.f (a0 : Int) (a1_0 : Int) (a1_1 : Int) : Option (Int) := some (wrap64 ((wrap64 ((wrap64 (a1_0 * a1_0)) + (wrap64 ((wrap64 (a0 * a1_0)) * a1_1)))) + (wrap64 (a1_1 * a1_1))))
theorem impl_norm.calls (a0 : Int) (a1_0 : Int) (a1_1 : Int) (r : Int) (w : World) (h : impl_norm.f a0 a1_0 a1_1 = some r) :
  Calls Tryz.prog 121 #[.int .i64 a0, .agg #[.int .i64 a1_0, .int .i64 a1_1]] w fun e w' => e = .returned (.int .i64 r) ∧ Below w.heap.size w w' := by
 have hu38 := Tryz.underlying38
 have HB := asd (Below.refl w.heap.size w)
 have H : (some (wrap64 ((wrap64 ((wrap64 (a1_0 * a1_0)) + (wrap64 ((wrap64 (a0 * a1_0)) * a1_1)))) + (wrap64 (a1_1 * a1_1))))) = some r := h
 clear h
 obtain rfl := Option.some.inj H
 go_enter Tryz.func121, Tryz.ntmps121
 go_wp2_with (first | ((with_reducible refine gd 3 rfl ?_); refine bx #[.int .i64 a1_0, .int .i64 a1_1] 38 ?_; intro gb520 hg w3 BK520 hb; have GE520 := ngw0 hg HB; replace HB := bS0 HB hb; clear hb hg; obtain ⟨hcz4_0, hcz4_1, hfz4_0, hfz4_1⟩ := bz2 BK520))
 go_ret
 exact er (bbw1 HB GE520)
def impl_pointMats.l0 : Nat → Int → List (S46) → Int → Option ((List (S46)))
 | 0, _, _, _ => none
 | k + 1, x0, x3, x10 => if x10 < 81 then ((impl_Mat_apply.f (wrap64 ((wrap64 (Int.tdiv x10 27)) - 1)) (wrap64 ((Int.tmod (wrap64 (Int.tdiv x10 9)) 3) - 1)) (wrap64 ((Int.tmod (wrap64 (Int.tdiv x10 3)) 3) - 1)) (wrap64 ((Int.tmod x10 3) - 1)) 1 0).bind fun bt525 => ((impl_Mat_apply.f (wrap64 ((wrap64 (Int.tdiv x10 27)) - 1)) (wrap64 ((Int.tmod (wrap64 (Int.tdiv x10 9)) 3) - 1)) (wrap64 ((Int.tmod (wrap64 (Int.tdiv x10 3)) 3) - 1)) (wrap64 ((Int.tmod x10 3) - 1)) 0 1).bind fun bt527 => ((impl_Mat_apply.f (wrap64 ((wrap64 (Int.tdiv x10 27)) - 1)) (wrap64 ((Int.tmod (wrap64 (Int.tdiv x10 9)) 3) - 1)) (wrap64 ((Int.tmod (wrap64 (Int.tdiv x10 3)) 3) - 1)) (wrap64 ((Int.tmod x10 3) - 1)) 1 1).bind fun bt529 => ((impl_norm.f x0 bt525.1 bt525.2).bind fun t534 => (if t534 = 1 then ((impl_norm.f x0 bt527.1 bt527.2).bind fun t535 => (if t535 = 1 then ((impl_norm.f x0 bt529.1 bt529.2).bind fun t536 => (if t536 = (wrap64 (2 + x0)) then (if x3.length < 4398046511104 then (impl_pointMats.l0 k x0 (x3 ++ [(⟨wrap64 ((wrap64 (Int.tdiv x10 27)) - 1), wrap64 ((Int.tmod (wrap64 (Int.tdiv x10 9)) 3) - 1), wrap64 ((Int.tmod (wrap64 (Int.tdiv x10 3)) 3) - 1), wrap64 ((Int.tmod x10 3) - 1)⟩ : S46)]) (wrap64 (x10 + 1))) else (none)) else (impl_pointMats.l0 k x0 x3 (wrap64 (x10 + 1))))) else (impl_pointMats.l0 k x0 x3 (wrap64 (x10 + 1))))) else (impl_pointMats.l0 k x0 x3 (wrap64 (x10 + 1)))))))) else (some x3)
def impl_pointMats.f (k : Nat) (a0 : Int) : Option ((List (S46))) := impl_pointMats.l0 k a0 (([] : List (S46))) 0
def impl_pointMats.T6 : Bool × List (List Nat × List Nat) := (true, [([], []), ([], []), ([0, 1], [0, 1]), ([], []), ([], []), ([3, 4, 2], [3, 4]), ([], []), ([], []), ([6, 7, 5], [6, 7]), ([], []), ([], []), ([], []), ([9, 2, 8, 0, 1, 2, 9, 10, 11], [2, 9]), ([10, 5, 12, 0, 1, 2, 3, 4, 5, 9, 10, 11, 12], [5, 10]), ([11, 8, 13, 0, 1, 2, 3, 4, 5, 6, 7, 8, 9, 10, 11, 12, 13], [8, 11])])
def impl_pointMats.B6 : List Nat := [0, 0, 3, 0, 0, 31, 0, 0, 255, 0, 0, 0, 4095, 8191, 16383]
theorem impl_pointMats.tab6 : rtab .any (opsOf Tryz.f104 6) = impl_pointMats.T6 := by kernel_rfl
theorem impl_pointMats.bits6 : waitsOk impl_pointMats.T6.2 impl_pointMats.B6 = true := by kernel_rfl
theorem impl_pointMats.calls (k : Nat) (a0 : Int) (r : List (S46)) (w : World) (h : impl_pointMats.f k a0 = some r) :
  Calls Tryz.prog 104 #[.int .i64 a0] w fun e w' => ∃ v0_ : Value, e = .returned (v0_) ∧ Kd.R k46 46 w' w.heap.size (fun _ => True) v0_ r ∧ Below w.heap.size w w' := by
 have hu46 := Tryz.underlying46
 have hu38 := Tryz.underlying38
 have HB := asd (Below.refl w.heap.size w)
 have H : (impl_pointMats.l0 k a0 (([] : List (S46))) 0) = some r := h
 clear h
 obtain ⟨y521, hy521⟩ : ∃ y_ : List (S46), y_ = (([] : List (S46))) := ⟨_, rfl⟩
 replace H : (impl_pointMats.l0 k a0 y521 0) = some r := by first | (rw [hy521]; with_reducible exact H) | (have H2_ := (Option.bind_some _ _).symm.trans H; rw [hy521]; with_reducible exact H2_) | (have H2_ := (Option.bind_some _ _).symm.trans H; with_reducible exact H2_) | with_reducible exact H | (rw [hy521]; exact H) | exact H
 have Ny521 := Aside0.mk hy521
 clear hy521
 have H' := Aside0.mk H
 clear H
 go_enter Tryz.func104, Tryz.ntmps104
 go_wp2_with (first | ((with_reducible refine gd 9 rfl ?_); refine Kd.R_lit k46 _ 46 ?hg (N := 9) ?hd (xs := ([] : List (S46))) (inner := []) (ok := fun _ => True) (okp := fun _ => True) ?hr ?hp (fun _ hk => hk) trivial (Below.refl _ _) (Nat.le_refl _) (by simp) ?_; (case hd => rfl); (case hg => rfl); (case hr => first | (go_simp; done) | (go_simp; rfl)); (case hp => exact (Reps.none _ _)); intro v522 w2 ho3 hb hg_ hnew_; clear hg_ hnew_; (first | rw [← Ny521.out] at ho3 | (simp only [Int.reduceToNat] at ho3; rw [← Ny521.out] at ho3)); have HO523 := asd (Kd.R_lower ho3 (bsz0 HB)); replace HB := bS0 HB hb; clear hb ho3))
 go_loopg [3, 10] k (fun kq v3 v10 w' => ∃ (x3_1 : List (S46)) (x10_1 : Int), v10 = .int .i64 x10_1 ∧ Aside0 (impl_pointMats.l0 kq a0 x3_1 x10_1 = some r) ∧ Aside0 (kq ≤ k) ∧ Aside0 (Kd.R k46 46 w' w.heap.size (fun _ => True) v3 x3_1) ∧ Aside0 (Below w.heap.size w w'))
 case atStart => exact ⟨(y521), (0), (by first | rfl | (simp; done) | (simp [*]; done)), H', ⟨Nat.le_refl _⟩, ⟨by (with_reducible repeat (first | apply Kd.R_alloc | apply Kd.R_drewN | apply Kd.R_drew)); exact HO523.out⟩, ⟨bbw0 HB⟩⟩
 case round =>
  clear H'
  try clear c1
  try clear p2
  obtain ⟨x3_1, x10_1, rfl, HA, HK1, HO_3, HB⟩ := hrel
  cases gk with
  | zero => exact absurd HA.out (by simp [impl_pointMats.l0])
  | succ k1 =>
   have H := HA.out
   clear HA
   simp only [impl_pointMats.l0] at H
   by_cases c4 : x10_1 < 81
   ·rw [if_pos c4] at H
    have c4b0 := decide_eq_true c4
    clear c4
    obtain ⟨⟨t525, t526⟩, A5, H⟩ := ob H
    try dsimp only at H
    obtain ⟨⟨t527, t528⟩, A6, H⟩ := ob H
    try dsimp only at H
    obtain ⟨⟨t529, t530⟩, A7, H⟩ := ob H
    try dsimp only at H
    have Hq_ := Aside0.mk H
    clear H
    try go_wp2_with (first | ((with_reducible refine gd 5 rfl ?_); refine bx #[.int .i64 0, .int .i64 0, .int .i64 0, .int .i64 0] 46 ?_; intro gb524 hg w15 BK524 hb; replace HO_3 := asd (Kd.R_below (Kd.R_elderB (kr HO_3) gb524 (Nat.le_of_eq hg.symm)) hb); have GE524 := ngw0 hg HB; replace HB := bS0 HB hb; clear hb hg; obtain ⟨hcz16_0, hcz16_1, hcz16_2, hcz16_3, hfz16_0, hfz16_1, hfz16_2, hfz16_3⟩ := bz4 BK524))
    obtain ⟨w17, h_w17⟩ : ∃ w_, ((((w15.setCell ⟨gb524, 0, none⟩ (.int .i64 (wrap64 ((wrap64 (Int.tdiv x10_1 27)) - 1)))).setCell ⟨gb524, 1, none⟩ (.int .i64 (wrap64 ((Int.tmod (wrap64 (Int.tdiv x10_1 9)) 3) - 1)))).setCell ⟨gb524, 2, none⟩ (.int .i64 (wrap64 ((Int.tmod (wrap64 (Int.tdiv x10_1 3)) 3) - 1)))).setCell ⟨gb524, 3, none⟩ (.int .i64 (wrap64 ((Int.tmod x10_1 3) - 1)))) = w_ := ⟨_, rfl⟩
    replace HO_3 : Aside0 (Kd.R k46 46 w17 w.heap.size (fun k_ => k_ ≠ gb524) u3 x3_1) := by rw [← h_w17]; exact ⟨by (with_reducible repeat (first | apply Kd.R_alloc | apply Kd.R_drewN | apply Kd.R_drew)); exact Kd.R_mono (rw4 (Kd.R_mono HO_3.out (fun k_ hk => (⟨hk, hk.2⟩ : _ ∧ k_ ≠ gb524)))) (fun _ hk => hk.1.2)⟩
    replace BK524 : Aside0 (w17.heap[gb524]? = some (.cells #[.int .i64 (wrap64 ((wrap64 (Int.tdiv x10_1 27)) - 1)), .int .i64 (wrap64 ((Int.tmod (wrap64 (Int.tdiv x10_1 9)) 3) - 1)), .int .i64 (wrap64 ((Int.tmod (wrap64 (Int.tdiv x10_1 3)) 3) - 1)), .int .i64 (wrap64 ((Int.tmod x10_1 3) - 1))] 46 (0, 0))) := by rw [← h_w17]; exact ⟨bq0 BK524⟩
    replace HB : Aside0 (Below w.heap.size w w17) := by rw [← h_w17]; exact ⟨bbw1 HB GE524⟩
    (try rw [h_w17]); clear h_w17
    replace HO_3 := asd (Kd.R_drew HO_3.out)
    replace BK524 := asd (blk_drew BK524.out)
    replace HB := asd (below_drew1 HB.out)
    refine start_ (n := 15) (S := fun w' => True) (ds := []) (bT 15 0) (by kernel_rfl) rfl rfl trivial (fun hHeld => ?_); refine with_tabW impl_pointMats.tab6 impl_pointMats.bits6 (fun HT_ HW_ => ?_)
    generalize w17.drew = w18 at HO_3 BK524 HB hHeld ⊢
    refine inv_at [0, 1, 2, 3, 4, 5, 6, 7, 8, 9, 10, 11, 12, 13, 14] (fun a0_ b a w' => ∃ (gb531 : Nat) (gb532 : Nat) (gb533 : Nat) (m9_ : Value) (m10_ : Value) (m11_ : Value), a = putSel a0_ b [(0, 28, .agg #[.int .i64 (wrap64 ((wrap64 (Int.tdiv x10_1 27)) - 1)), .int .i64 (wrap64 ((Int.tmod (wrap64 (Int.tdiv x10_1 9)) 3) - 1)), .int .i64 (wrap64 ((Int.tmod (wrap64 (Int.tdiv x10_1 3)) 3) - 1)), .int .i64 (wrap64 ((Int.tmod x10_1 3) - 1))]), (1, 29, .agg #[.int .i64 1, .int .i64 0]), (2, 30, .agg #[.int .i64 t525, .int .i64 t526]), (3, 31, .agg #[.int .i64 (wrap64 ((wrap64 (Int.tdiv x10_1 27)) - 1)), .int .i64 (wrap64 ((Int.tmod (wrap64 (Int.tdiv x10_1 9)) 3) - 1)), .int .i64 (wrap64 ((Int.tmod (wrap64 (Int.tdiv x10_1 3)) 3) - 1)), .int .i64 (wrap64 ((Int.tmod x10_1 3) - 1))]), (4, 32, .agg #[.int .i64 0, .int .i64 1]), (5, 33, .agg #[.int .i64 t527, .int .i64 t528]), (6, 34, .agg #[.int .i64 (wrap64 ((wrap64 (Int.tdiv x10_1 27)) - 1)), .int .i64 (wrap64 ((Int.tmod (wrap64 (Int.tdiv x10_1 9)) 3) - 1)), .int .i64 (wrap64 ((Int.tmod (wrap64 (Int.tdiv x10_1 3)) 3) - 1)), .int .i64 (wrap64 ((Int.tmod x10_1 3) - 1))]), (7, 35, .agg #[.int .i64 1, .int .i64 1]), (8, 36, .agg #[.int .i64 t529, .int .i64 t530]), (9, 6, m9_), (10, 7, m10_), (11, 8, m11_)] ∧ (Kd.R k46 46 w' w.heap.size (fun k_ => k_ ≠ gb524) u3 x3_1) ∧ (w'.heap[gb524]? = some (.cells #[.int .i64 (wrap64 ((wrap64 (Int.tdiv x10_1 27)) - 1)), .int .i64 (wrap64 ((Int.tmod (wrap64 (Int.tdiv x10_1 9)) 3) - 1)), .int .i64 (wrap64 ((Int.tmod (wrap64 (Int.tdiv x10_1 3)) 3) - 1)), .int .i64 (wrap64 ((Int.tmod x10_1 3) - 1))] 46 (0, 0))) ∧ (Below w.heap.size w w') ∧ (b 9 = true → b 10 = true → gb532 ≠ gb531) ∧ (b 9 = true → b 10 = true → gb531 ≠ gb532) ∧ (b 9 = true → b 11 = true → gb533 ≠ gb531) ∧ (b 9 = true → b 11 = true → gb531 ≠ gb533) ∧ (b 10 = true → b 11 = true → gb533 ≠ gb532) ∧ (b 10 = true → b 11 = true → gb532 ≠ gb533) ∧ (b 9 = true → b 12 = false → w'.heap[gb531]? = some (.cells #[.int .i64 0, .int .i64 0] 38 (0, 0))) ∧ (b 9 = true → w.heap.size ≤ gb531) ∧ (b 9 = true → w.heap.size ≤ gb531) ∧ (b 9 = true → gb524 ≠ gb531) ∧ (b 9 = true → gb531 ≠ gb524) ∧ (b 10 = true → b 13 = false → w'.heap[gb532]? = some (.cells #[.int .i64 0, .int .i64 0] 38 (0, 0))) ∧ (b 10 = true → w.heap.size ≤ gb532) ∧ (b 10 = true → w.heap.size ≤ gb532) ∧ (b 10 = true → gb524 ≠ gb532) ∧ (b 10 = true → gb532 ≠ gb524) ∧ (b 11 = true → b 14 = false → w'.heap[gb533]? = some (.cells #[.int .i64 0, .int .i64 0] 38 (0, 0))) ∧ (b 11 = true → w.heap.size ≤ gb533) ∧ (b 11 = true → w.heap.size ≤ gb533) ∧ (b 11 = true → gb524 ≠ gb533) ∧ (b 11 = true → gb533 ≠ gb524) ∧ (b 12 = true → w'.heap[gb531]? = some (.cells #[.int .i64 t525, .int .i64 t526] 38 (0, 0))) ∧ (b 13 = true → w'.heap[gb532]? = some (.cells #[.int .i64 t527, .int .i64 t528] 38 (0, 0))) ∧ (b 14 = true → w'.heap[gb533]? = some (.cells #[.int .i64 t529, .int .i64 t530] 38 (0, 0))) ∧ (b 9 = true → (m9_ : Value) = .pointer (some ⟨gb531, 0, none⟩)) ∧ (b 10 = true → (m10_ : Value) = .pointer (some ⟨gb532, 0, none⟩)) ∧ (b 11 = true → (m11_ : Value) = .pointer (some ⟨gb533, 0, none⟩))) HT_.out HW_.out (by kernel_rfl) (by kernel_rfl) ?_ ?_ ?_
    ·exact ⟨0, 0, 0, .bool false, .bool false, .bool false, by simp only [putSel, Bool.false_eq_true, if_false], HO_3.out, BK524.out, HB.out, fun h_ => absurd h_ (by decide), fun h_ => absurd h_ (by decide), fun h_ => absurd h_ (by decide), fun h_ => absurd h_ (by decide), fun h_ => absurd h_ (by decide), fun h_ => absurd h_ (by decide), fun h_ => absurd h_ (by decide), fun h_ => absurd h_ (by decide), fun h_ => absurd h_ (by decide), fun h_ => absurd h_ (by decide), fun h_ => absurd h_ (by decide), fun h_ => absurd h_ (by decide), fun h_ => absurd h_ (by decide), fun h_ => absurd h_ (by decide), fun h_ => absurd h_ (by decide), fun h_ => absurd h_ (by decide), fun h_ => absurd h_ (by decide), fun h_ => absurd h_ (by decide), fun h_ => absurd h_ (by decide), fun h_ => absurd h_ (by decide), fun h_ => absurd h_ (by decide), fun h_ => absurd h_ (by decide), fun h_ => absurd h_ (by decide), fun h_ => absurd h_ (by decide), fun h_ => absurd h_ (by decide), fun h_ => absurd h_ (by decide), fun h_ => absurd h_ (by decide)⟩
    ·skip
     clear BK524 HB HO_3
     refine steps_cons ?_ ?_
     ·rintro b a w' ⟨gb531, gb532, gb533, m9_, m10_, m11_, ha, Q_HO_3, Q_BK524, Q_HB, Q_NB532_531, Q_NB531_532, Q_NB533_531, Q_NB531_533, Q_NB533_532, Q_NB532_533, Q_BK531, Q_GW531, Q_GE531, Q_NB524_531, Q_NB531_524, Q_BK532, Q_GW532, Q_GE532, Q_NB524_532, Q_NB532_524, Q_BK533, Q_GW533, Q_GE533, Q_NB524_533, Q_NB533_524, Q_BK531_e12, Q_BK532_e13, Q_BK533_e14, Q_X9_, Q_X10_, Q_X11_⟩ hb_ hon hoff
      refine ⟨_, rfl, fun K hK => ?_⟩
      have e5 : a.tmps[5]? = some (.pointer (some ⟨gb524, 0, none⟩)) := by rw [ha]; exact (putSel_off rfl).trans rfl
      replace ha := Aside0.mk ha
      have HO_3 := Aside0.mk Q_HO_3
      have BK524 := Aside0.mk Q_BK524
      have HB := Aside0.mk Q_HB
      have hc0_ : w'.cell? ⟨gb524, 0, none⟩ = some (.int .i64 (wrap64 ((wrap64 (Int.tdiv x10_1 27)) - 1))) := bcl BK524 0
      have hc1_ : w'.cell? ⟨gb524, 1, none⟩ = some (.int .i64 (wrap64 ((Int.tmod (wrap64 (Int.tdiv x10_1 9)) 3) - 1))) := bcl BK524 1
      have hc2_ : w'.cell? ⟨gb524, 2, none⟩ = some (.int .i64 (wrap64 ((Int.tmod (wrap64 (Int.tdiv x10_1 3)) 3) - 1))) := bcl BK524 2
      have hc3_ : w'.cell? ⟨gb524, 3, none⟩ = some (.int .i64 (wrap64 ((Int.tmod x10_1 3) - 1))) := bcl BK524 3
      refine value_ (w1 := w') (v := .agg #[.int .i64 (wrap64 ((wrap64 (Int.tdiv x10_1 27)) - 1)), .int .i64 (wrap64 ((Int.tmod (wrap64 (Int.tdiv x10_1 9)) 3) - 1)), .int .i64 (wrap64 ((Int.tmod (wrap64 (Int.tdiv x10_1 3)) 3) - 1)), .int .i64 (wrap64 ((Int.tmod x10_1 3) - 1))]) (by rfl) rfl ?_ ?_
      ·go_simp
       (try simp only [i64_w])
       try rfl
      refine hK.out _ _ ⟨gb531, gb532, gb533, m9_, m10_, m11_, (by rw [ha.out]; exact putSel_upk 0 hb_ rfl rfl rfl), Q_HO_3, Q_BK524, Q_HB, Q_NB532_531, Q_NB531_532, Q_NB533_531, Q_NB531_533, Q_NB533_532, Q_NB532_533, Q_BK531, Q_GW531, Q_GE531, Q_NB524_531, Q_NB531_524, Q_BK532, Q_GW532, Q_GE532, Q_NB524_532, Q_NB532_524, Q_BK533, Q_GW533, Q_GE533, Q_NB524_533, Q_NB533_524, fun h0_ => absurd ((hoff 12 (by kernel_rfl)).symm.trans h0_) (by decide), fun h0_ => absurd ((hoff 13 (by kernel_rfl)).symm.trans h0_) (by decide), fun h0_ => absurd ((hoff 14 (by kernel_rfl)).symm.trans h0_) (by decide), Q_X9_, Q_X10_, Q_X11_⟩
     refine steps_cons ?_ ?_
     ·rintro b a w' ⟨gb531, gb532, gb533, m9_, m10_, m11_, ha, Q_HO_3, Q_BK524, Q_HB, Q_NB532_531, Q_NB531_532, Q_NB533_531, Q_NB531_533, Q_NB533_532, Q_NB532_533, Q_BK531, Q_GW531, Q_GE531, Q_NB524_531, Q_NB531_524, Q_BK532, Q_GW532, Q_GE532, Q_NB524_532, Q_NB532_524, Q_BK533, Q_GW533, Q_GE533, Q_NB524_533, Q_NB533_524, Q_BK531_e12, Q_BK532_e13, Q_BK533_e14, Q_X9_, Q_X10_, Q_X11_⟩ hb_ hon hoff
      refine ⟨_, rfl, fun K hK => ?_⟩
      replace ha := Aside0.mk ha
      have HO_3 := Aside0.mk Q_HO_3
      have BK524 := Aside0.mk Q_BK524
      have HB := Aside0.mk Q_HB
      refine value_ (w1 := w') (v := .agg #[.int .i64 1, .int .i64 0]) (by rfl) rfl ?_ ?_
      ·go_simp
       (try simp only [i64_w])
       try rfl
      refine hK.out _ _ ⟨gb531, gb532, gb533, m9_, m10_, m11_, (by rw [ha.out]; exact putSel_upk 1 hb_ rfl rfl rfl), Q_HO_3, Q_BK524, Q_HB, Q_NB532_531, Q_NB531_532, Q_NB533_531, Q_NB531_533, Q_NB533_532, Q_NB532_533, Q_BK531, Q_GW531, Q_GE531, Q_NB524_531, Q_NB531_524, Q_BK532, Q_GW532, Q_GE532, Q_NB524_532, Q_NB532_524, Q_BK533, Q_GW533, Q_GE533, Q_NB524_533, Q_NB533_524, fun h0_ => absurd ((hoff 12 (by kernel_rfl)).symm.trans h0_) (by decide), fun h0_ => absurd ((hoff 13 (by kernel_rfl)).symm.trans h0_) (by decide), fun h0_ => absurd ((hoff 14 (by kernel_rfl)).symm.trans h0_) (by decide), Q_X9_, Q_X10_, Q_X11_⟩
     refine steps_cons ?_ ?_
     ·rintro b a w' ⟨gb531, gb532, gb533, m9_, m10_, m11_, ha, Q_HO_3, Q_BK524, Q_HB, Q_NB532_531, Q_NB531_532, Q_NB533_531, Q_NB531_533, Q_NB533_532, Q_NB532_533, Q_BK531, Q_GW531, Q_GE531, Q_NB524_531, Q_NB531_524, Q_BK532, Q_GW532, Q_GE532, Q_NB524_532, Q_NB532_524, Q_BK533, Q_GW533, Q_GE533, Q_NB524_533, Q_NB533_524, Q_BK531_e12, Q_BK532_e13, Q_BK533_e14, Q_X9_, Q_X10_, Q_X11_⟩ hb_ hon hoff
      refine ⟨_, rfl, fun K hK => ?_⟩
      have e28 : a.tmps[28]? = some (.agg #[.int .i64 (wrap64 ((wrap64 (Int.tdiv x10_1 27)) - 1)), .int .i64 (wrap64 ((Int.tmod (wrap64 (Int.tdiv x10_1 9)) 3) - 1)), .int .i64 (wrap64 ((Int.tmod (wrap64 (Int.tdiv x10_1 3)) 3) - 1)), .int .i64 (wrap64 ((Int.tmod x10_1 3) - 1))]) := by rw [ha]; exact putSel_on (e := (0, 28, .agg #[.int .i64 (wrap64 ((wrap64 (Int.tdiv x10_1 27)) - 1)), .int .i64 (wrap64 ((Int.tmod (wrap64 (Int.tdiv x10_1 9)) 3) - 1)), .int .i64 (wrap64 ((Int.tmod (wrap64 (Int.tdiv x10_1 3)) 3) - 1)), .int .i64 (wrap64 ((Int.tmod x10_1 3) - 1))])) 0 rfl rfl (hon 0 (by kernel_rfl)) rfl
      have e29 : a.tmps[29]? = some (.agg #[.int .i64 1, .int .i64 0]) := by rw [ha]; exact putSel_on (e := (1, 29, .agg #[.int .i64 1, .int .i64 0])) 1 rfl rfl (hon 1 (by kernel_rfl)) rfl
      replace ha := Aside0.mk ha
      have HO_3 := Aside0.mk Q_HO_3
      have BK524 := Aside0.mk Q_BK524
      have HB := Aside0.mk Q_HB
      refine goes_ Tryz.func84 (by kernel_rfl) rfl #[.agg #[.int .i64 (wrap64 ((wrap64 (Int.tdiv x10_1 27)) - 1)), .int .i64 (wrap64 ((Int.tmod (wrap64 (Int.tdiv x10_1 9)) 3) - 1)), .int .i64 (wrap64 ((Int.tmod (wrap64 (Int.tdiv x10_1 3)) 3) - 1)), .int .i64 (wrap64 ((Int.tmod x10_1 3) - 1))], .agg #[.int .i64 1, .int .i64 0]] (by rfl) rfl rfl (by first | (simp only [List.map_toArray, List.map_cons, List.map_nil, Act.eval, Array.getD_eq_getD_getElem?, Option.getD_some, e28, e29]; done) | (simp only [List.map_toArray, List.map_cons, List.map_nil, Act.eval, Array.getD_eq_getD_getElem?, Option.getD_some, e28, e29]; rfl)) ?_
      with_reducible refine (impl_Mat_apply.calls _ _ _ _ _ _ _ _ _ A5.out).mono ?_
      rintro e w19 ⟨rfl, hb⟩
      refine ⟨_, rfl, ?_⟩
      have n0_ := asd (Kd.R_below (kr HO_3) hb)
      have n1_ := bB BK524 hb
      have n2_ := bS1 HB GE524 hb
      have z_BK531 := fun (h0_ : b 9 = true) (h1_ : b 12 = false) => (show w19.heap[gb531]? = some (.cells #[.int .i64 0, .int .i64 0] 38 (0, 0)) from by first | exact (blk_below (g := gb531) (o := .cells #[.int .i64 0, .int .i64 0] 38 (0, 0)) (by (with_reducible repeat (first | refine blk_drewN ?_ _ | refine blk_drew ?_ | refine blk_alloc ?_ _)); exact (Q_BK531 h0_ h1_)) hb))
      have z_BK532 := fun (h0_ : b 10 = true) (h1_ : b 13 = false) => (show w19.heap[gb532]? = some (.cells #[.int .i64 0, .int .i64 0] 38 (0, 0)) from by first | exact (blk_below (g := gb532) (o := .cells #[.int .i64 0, .int .i64 0] 38 (0, 0)) (by (with_reducible repeat (first | refine blk_drewN ?_ _ | refine blk_drew ?_ | refine blk_alloc ?_ _)); exact (Q_BK532 h0_ h1_)) hb))
      have z_BK533 := fun (h0_ : b 11 = true) (h1_ : b 14 = false) => (show w19.heap[gb533]? = some (.cells #[.int .i64 0, .int .i64 0] 38 (0, 0)) from by first | exact (blk_below (g := gb533) (o := .cells #[.int .i64 0, .int .i64 0] 38 (0, 0)) (by (with_reducible repeat (first | refine blk_drewN ?_ _ | refine blk_drew ?_ | refine blk_alloc ?_ _)); exact (Q_BK533 h0_ h1_)) hb))
      clear HO_3
      clear BK524
      clear HB
      have HO_3 := n0_
      have BK524 := n1_
      have HB := n2_
      clear n0_ n1_ n2_
      (try clear hb)
      (try clear hb2)
      (try clear hk)
      (try clear hi)
      refine hK.out _ _ ⟨gb531, gb532, gb533, m9_, m10_, m11_, (by rw [ha.out]; exact putSel_upk 2 hb_ rfl rfl rfl), (kr HO_3), (bkp BK524), (bbw1 HB GE524), Q_NB532_531, Q_NB531_532, Q_NB533_531, Q_NB531_533, Q_NB533_532, Q_NB532_533, z_BK531, Q_GW531, Q_GE531, Q_NB524_531, Q_NB531_524, z_BK532, Q_GW532, Q_GE532, Q_NB524_532, Q_NB532_524, z_BK533, Q_GW533, Q_GE533, Q_NB524_533, Q_NB533_524, fun h0_ => absurd ((hoff 12 (by kernel_rfl)).symm.trans h0_) (by decide), fun h0_ => absurd ((hoff 13 (by kernel_rfl)).symm.trans h0_) (by decide), fun h0_ => absurd ((hoff 14 (by kernel_rfl)).symm.trans h0_) (by decide), Q_X9_, Q_X10_, Q_X11_⟩
     refine steps_cons ?_ ?_
     ·rintro b a w' ⟨gb531, gb532, gb533, m9_, m10_, m11_, ha, Q_HO_3, Q_BK524, Q_HB, Q_NB532_531, Q_NB531_532, Q_NB533_531, Q_NB531_533, Q_NB533_532, Q_NB532_533, Q_BK531, Q_GW531, Q_GE531, Q_NB524_531, Q_NB531_524, Q_BK532, Q_GW532, Q_GE532, Q_NB524_532, Q_NB532_524, Q_BK533, Q_GW533, Q_GE533, Q_NB524_533, Q_NB533_524, Q_BK531_e12, Q_BK532_e13, Q_BK533_e14, Q_X9_, Q_X10_, Q_X11_⟩ hb_ hon hoff
      refine ⟨_, rfl, fun K hK => ?_⟩
      have e5 : a.tmps[5]? = some (.pointer (some ⟨gb524, 0, none⟩)) := by rw [ha]; exact (putSel_off rfl).trans rfl
      replace ha := Aside0.mk ha
      have HO_3 := Aside0.mk Q_HO_3
      have BK524 := Aside0.mk Q_BK524
      have HB := Aside0.mk Q_HB
      have hc0_ : w'.cell? ⟨gb524, 0, none⟩ = some (.int .i64 (wrap64 ((wrap64 (Int.tdiv x10_1 27)) - 1))) := bcl BK524 0
      have hc1_ : w'.cell? ⟨gb524, 1, none⟩ = some (.int .i64 (wrap64 ((Int.tmod (wrap64 (Int.tdiv x10_1 9)) 3) - 1))) := bcl BK524 1
      have hc2_ : w'.cell? ⟨gb524, 2, none⟩ = some (.int .i64 (wrap64 ((Int.tmod (wrap64 (Int.tdiv x10_1 3)) 3) - 1))) := bcl BK524 2
      have hc3_ : w'.cell? ⟨gb524, 3, none⟩ = some (.int .i64 (wrap64 ((Int.tmod x10_1 3) - 1))) := bcl BK524 3
      refine value_ (w1 := w') (v := .agg #[.int .i64 (wrap64 ((wrap64 (Int.tdiv x10_1 27)) - 1)), .int .i64 (wrap64 ((Int.tmod (wrap64 (Int.tdiv x10_1 9)) 3) - 1)), .int .i64 (wrap64 ((Int.tmod (wrap64 (Int.tdiv x10_1 3)) 3) - 1)), .int .i64 (wrap64 ((Int.tmod x10_1 3) - 1))]) (by rfl) rfl ?_ ?_
      ·go_simp
       (try simp only [i64_w])
       try rfl
      refine hK.out _ _ ⟨gb531, gb532, gb533, m9_, m10_, m11_, (by rw [ha.out]; exact putSel_upk 3 hb_ rfl rfl rfl), Q_HO_3, Q_BK524, Q_HB, Q_NB532_531, Q_NB531_532, Q_NB533_531, Q_NB531_533, Q_NB533_532, Q_NB532_533, Q_BK531, Q_GW531, Q_GE531, Q_NB524_531, Q_NB531_524, Q_BK532, Q_GW532, Q_GE532, Q_NB524_532, Q_NB532_524, Q_BK533, Q_GW533, Q_GE533, Q_NB524_533, Q_NB533_524, fun h0_ => absurd ((hoff 12 (by kernel_rfl)).symm.trans h0_) (by decide), fun h0_ => absurd ((hoff 13 (by kernel_rfl)).symm.trans h0_) (by decide), fun h0_ => absurd ((hoff 14 (by kernel_rfl)).symm.trans h0_) (by decide), Q_X9_, Q_X10_, Q_X11_⟩
     refine steps_cons ?_ ?_
     ·rintro b a w' ⟨gb531, gb532, gb533, m9_, m10_, m11_, ha, Q_HO_3, Q_BK524, Q_HB, Q_NB532_531, Q_NB531_532, Q_NB533_531, Q_NB531_533, Q_NB533_532, Q_NB532_533, Q_BK531, Q_GW531, Q_GE531, Q_NB524_531, Q_NB531_524, Q_BK532, Q_GW532, Q_GE532, Q_NB524_532, Q_NB532_524, Q_BK533, Q_GW533, Q_GE533, Q_NB524_533, Q_NB533_524, Q_BK531_e12, Q_BK532_e13, Q_BK533_e14, Q_X9_, Q_X10_, Q_X11_⟩ hb_ hon hoff
      refine ⟨_, rfl, fun K hK => ?_⟩
      replace ha := Aside0.mk ha
      have HO_3 := Aside0.mk Q_HO_3
      have BK524 := Aside0.mk Q_BK524
      have HB := Aside0.mk Q_HB
      refine value_ (w1 := w') (v := .agg #[.int .i64 0, .int .i64 1]) (by rfl) rfl ?_ ?_
      ·go_simp
       (try simp only [i64_w])
       try rfl
      refine hK.out _ _ ⟨gb531, gb532, gb533, m9_, m10_, m11_, (by rw [ha.out]; exact putSel_upk 4 hb_ rfl rfl rfl), Q_HO_3, Q_BK524, Q_HB, Q_NB532_531, Q_NB531_532, Q_NB533_531, Q_NB531_533, Q_NB533_532, Q_NB532_533, Q_BK531, Q_GW531, Q_GE531, Q_NB524_531, Q_NB531_524, Q_BK532, Q_GW532, Q_GE532, Q_NB524_532, Q_NB532_524, Q_BK533, Q_GW533, Q_GE533, Q_NB524_533, Q_NB533_524, fun h0_ => absurd ((hoff 12 (by kernel_rfl)).symm.trans h0_) (by decide), fun h0_ => absurd ((hoff 13 (by kernel_rfl)).symm.trans h0_) (by decide), fun h0_ => absurd ((hoff 14 (by kernel_rfl)).symm.trans h0_) (by decide), Q_X9_, Q_X10_, Q_X11_⟩
     refine steps_cons ?_ ?_
     ·rintro b a w' ⟨gb531, gb532, gb533, m9_, m10_, m11_, ha, Q_HO_3, Q_BK524, Q_HB, Q_NB532_531, Q_NB531_532, Q_NB533_531, Q_NB531_533, Q_NB533_532, Q_NB532_533, Q_BK531, Q_GW531, Q_GE531, Q_NB524_531, Q_NB531_524, Q_BK532, Q_GW532, Q_GE532, Q_NB524_532, Q_NB532_524, Q_BK533, Q_GW533, Q_GE533, Q_NB524_533, Q_NB533_524, Q_BK531_e12, Q_BK532_e13, Q_BK533_e14, Q_X9_, Q_X10_, Q_X11_⟩ hb_ hon hoff
      refine ⟨_, rfl, fun K hK => ?_⟩
      have e31 : a.tmps[31]? = some (.agg #[.int .i64 (wrap64 ((wrap64 (Int.tdiv x10_1 27)) - 1)), .int .i64 (wrap64 ((Int.tmod (wrap64 (Int.tdiv x10_1 9)) 3) - 1)), .int .i64 (wrap64 ((Int.tmod (wrap64 (Int.tdiv x10_1 3)) 3) - 1)), .int .i64 (wrap64 ((Int.tmod x10_1 3) - 1))]) := by rw [ha]; exact putSel_on (e := (3, 31, .agg #[.int .i64 (wrap64 ((wrap64 (Int.tdiv x10_1 27)) - 1)), .int .i64 (wrap64 ((Int.tmod (wrap64 (Int.tdiv x10_1 9)) 3) - 1)), .int .i64 (wrap64 ((Int.tmod (wrap64 (Int.tdiv x10_1 3)) 3) - 1)), .int .i64 (wrap64 ((Int.tmod x10_1 3) - 1))])) 3 rfl rfl (hon 3 (by kernel_rfl)) rfl
      have e32 : a.tmps[32]? = some (.agg #[.int .i64 0, .int .i64 1]) := by rw [ha]; exact putSel_on (e := (4, 32, .agg #[.int .i64 0, .int .i64 1])) 4 rfl rfl (hon 4 (by kernel_rfl)) rfl
      replace ha := Aside0.mk ha
      have HO_3 := Aside0.mk Q_HO_3
      have BK524 := Aside0.mk Q_BK524
      have HB := Aside0.mk Q_HB
      refine goes_ Tryz.func84 (by kernel_rfl) rfl #[.agg #[.int .i64 (wrap64 ((wrap64 (Int.tdiv x10_1 27)) - 1)), .int .i64 (wrap64 ((Int.tmod (wrap64 (Int.tdiv x10_1 9)) 3) - 1)), .int .i64 (wrap64 ((Int.tmod (wrap64 (Int.tdiv x10_1 3)) 3) - 1)), .int .i64 (wrap64 ((Int.tmod x10_1 3) - 1))], .agg #[.int .i64 0, .int .i64 1]] (by rfl) rfl rfl (by first | (simp only [List.map_toArray, List.map_cons, List.map_nil, Act.eval, Array.getD_eq_getD_getElem?, Option.getD_some, e31, e32]; done) | (simp only [List.map_toArray, List.map_cons, List.map_nil, Act.eval, Array.getD_eq_getD_getElem?, Option.getD_some, e31, e32]; rfl)) ?_
      with_reducible refine (impl_Mat_apply.calls _ _ _ _ _ _ _ _ _ A6.out).mono ?_
      rintro e w21 ⟨rfl, hb⟩
      refine ⟨_, rfl, ?_⟩
      have n0_ := asd (Kd.R_below (kr HO_3) hb)
      have n1_ := bB BK524 hb
      have n2_ := bS1 HB GE524 hb
      have z_BK531 := fun (h0_ : b 9 = true) (h1_ : b 12 = false) => (show w21.heap[gb531]? = some (.cells #[.int .i64 0, .int .i64 0] 38 (0, 0)) from by first | exact (blk_below (g := gb531) (o := .cells #[.int .i64 0, .int .i64 0] 38 (0, 0)) (by (with_reducible repeat (first | refine blk_drewN ?_ _ | refine blk_drew ?_ | refine blk_alloc ?_ _)); exact (Q_BK531 h0_ h1_)) hb))
      have z_BK532 := fun (h0_ : b 10 = true) (h1_ : b 13 = false) => (show w21.heap[gb532]? = some (.cells #[.int .i64 0, .int .i64 0] 38 (0, 0)) from by first | exact (blk_below (g := gb532) (o := .cells #[.int .i64 0, .int .i64 0] 38 (0, 0)) (by (with_reducible repeat (first | refine blk_drewN ?_ _ | refine blk_drew ?_ | refine blk_alloc ?_ _)); exact (Q_BK532 h0_ h1_)) hb))
      have z_BK533 := fun (h0_ : b 11 = true) (h1_ : b 14 = false) => (show w21.heap[gb533]? = some (.cells #[.int .i64 0, .int .i64 0] 38 (0, 0)) from by first | exact (blk_below (g := gb533) (o := .cells #[.int .i64 0, .int .i64 0] 38 (0, 0)) (by (with_reducible repeat (first | refine blk_drewN ?_ _ | refine blk_drew ?_ | refine blk_alloc ?_ _)); exact (Q_BK533 h0_ h1_)) hb))
      clear HO_3
      clear BK524
      clear HB
      have HO_3 := n0_
      have BK524 := n1_
      have HB := n2_
      clear n0_ n1_ n2_
      (try clear hb)
      (try clear hb2)
      (try clear hk)
      (try clear hi)
      refine hK.out _ _ ⟨gb531, gb532, gb533, m9_, m10_, m11_, (by rw [ha.out]; exact putSel_upk 5 hb_ rfl rfl rfl), (kr HO_3), (bkp BK524), (bbw1 HB GE524), Q_NB532_531, Q_NB531_532, Q_NB533_531, Q_NB531_533, Q_NB533_532, Q_NB532_533, z_BK531, Q_GW531, Q_GE531, Q_NB524_531, Q_NB531_524, z_BK532, Q_GW532, Q_GE532, Q_NB524_532, Q_NB532_524, z_BK533, Q_GW533, Q_GE533, Q_NB524_533, Q_NB533_524, fun h0_ => absurd ((hoff 12 (by kernel_rfl)).symm.trans h0_) (by decide), fun h0_ => absurd ((hoff 13 (by kernel_rfl)).symm.trans h0_) (by decide), fun h0_ => absurd ((hoff 14 (by kernel_rfl)).symm.trans h0_) (by decide), Q_X9_, Q_X10_, Q_X11_⟩
     refine steps_cons ?_ ?_
     ·rintro b a w' ⟨gb531, gb532, gb533, m9_, m10_, m11_, ha, Q_HO_3, Q_BK524, Q_HB, Q_NB532_531, Q_NB531_532, Q_NB533_531, Q_NB531_533, Q_NB533_532, Q_NB532_533, Q_BK531, Q_GW531, Q_GE531, Q_NB524_531, Q_NB531_524, Q_BK532, Q_GW532, Q_GE532, Q_NB524_532, Q_NB532_524, Q_BK533, Q_GW533, Q_GE533, Q_NB524_533, Q_NB533_524, Q_BK531_e12, Q_BK532_e13, Q_BK533_e14, Q_X9_, Q_X10_, Q_X11_⟩ hb_ hon hoff
      refine ⟨_, rfl, fun K hK => ?_⟩
      have e5 : a.tmps[5]? = some (.pointer (some ⟨gb524, 0, none⟩)) := by rw [ha]; exact (putSel_off rfl).trans rfl
      replace ha := Aside0.mk ha
      have HO_3 := Aside0.mk Q_HO_3
      have BK524 := Aside0.mk Q_BK524
      have HB := Aside0.mk Q_HB
      have hc0_ : w'.cell? ⟨gb524, 0, none⟩ = some (.int .i64 (wrap64 ((wrap64 (Int.tdiv x10_1 27)) - 1))) := bcl BK524 0
      have hc1_ : w'.cell? ⟨gb524, 1, none⟩ = some (.int .i64 (wrap64 ((Int.tmod (wrap64 (Int.tdiv x10_1 9)) 3) - 1))) := bcl BK524 1
      have hc2_ : w'.cell? ⟨gb524, 2, none⟩ = some (.int .i64 (wrap64 ((Int.tmod (wrap64 (Int.tdiv x10_1 3)) 3) - 1))) := bcl BK524 2
      have hc3_ : w'.cell? ⟨gb524, 3, none⟩ = some (.int .i64 (wrap64 ((Int.tmod x10_1 3) - 1))) := bcl BK524 3
      refine value_ (w1 := w') (v := .agg #[.int .i64 (wrap64 ((wrap64 (Int.tdiv x10_1 27)) - 1)), .int .i64 (wrap64 ((Int.tmod (wrap64 (Int.tdiv x10_1 9)) 3) - 1)), .int .i64 (wrap64 ((Int.tmod (wrap64 (Int.tdiv x10_1 3)) 3) - 1)), .int .i64 (wrap64 ((Int.tmod x10_1 3) - 1))]) (by rfl) rfl ?_ ?_
      ·go_simp
       (try simp only [i64_w])
       try rfl
      refine hK.out _ _ ⟨gb531, gb532, gb533, m9_, m10_, m11_, (by rw [ha.out]; exact putSel_upk 6 hb_ rfl rfl rfl), Q_HO_3, Q_BK524, Q_HB, Q_NB532_531, Q_NB531_532, Q_NB533_531, Q_NB531_533, Q_NB533_532, Q_NB532_533, Q_BK531, Q_GW531, Q_GE531, Q_NB524_531, Q_NB531_524, Q_BK532, Q_GW532, Q_GE532, Q_NB524_532, Q_NB532_524, Q_BK533, Q_GW533, Q_GE533, Q_NB524_533, Q_NB533_524, fun h0_ => absurd ((hoff 12 (by kernel_rfl)).symm.trans h0_) (by decide), fun h0_ => absurd ((hoff 13 (by kernel_rfl)).symm.trans h0_) (by decide), fun h0_ => absurd ((hoff 14 (by kernel_rfl)).symm.trans h0_) (by decide), Q_X9_, Q_X10_, Q_X11_⟩
     refine steps_cons ?_ ?_
     ·rintro b a w' ⟨gb531, gb532, gb533, m9_, m10_, m11_, ha, Q_HO_3, Q_BK524, Q_HB, Q_NB532_531, Q_NB531_532, Q_NB533_531, Q_NB531_533, Q_NB533_532, Q_NB532_533, Q_BK531, Q_GW531, Q_GE531, Q_NB524_531, Q_NB531_524, Q_BK532, Q_GW532, Q_GE532, Q_NB524_532, Q_NB532_524, Q_BK533, Q_GW533, Q_GE533, Q_NB524_533, Q_NB533_524, Q_BK531_e12, Q_BK532_e13, Q_BK533_e14, Q_X9_, Q_X10_, Q_X11_⟩ hb_ hon hoff
      refine ⟨_, rfl, fun K hK => ?_⟩
      replace ha := Aside0.mk ha
      have HO_3 := Aside0.mk Q_HO_3
      have BK524 := Aside0.mk Q_BK524
      have HB := Aside0.mk Q_HB
      refine value_ (w1 := w') (v := .agg #[.int .i64 1, .int .i64 1]) (by rfl) rfl ?_ ?_
      ·go_simp
       (try simp only [i64_w])
       try rfl
      refine hK.out _ _ ⟨gb531, gb532, gb533, m9_, m10_, m11_, (by rw [ha.out]; exact putSel_upk 7 hb_ rfl rfl rfl), Q_HO_3, Q_BK524, Q_HB, Q_NB532_531, Q_NB531_532, Q_NB533_531, Q_NB531_533, Q_NB533_532, Q_NB532_533, Q_BK531, Q_GW531, Q_GE531, Q_NB524_531, Q_NB531_524, Q_BK532, Q_GW532, Q_GE532, Q_NB524_532, Q_NB532_524, Q_BK533, Q_GW533, Q_GE533, Q_NB524_533, Q_NB533_524, fun h0_ => absurd ((hoff 12 (by kernel_rfl)).symm.trans h0_) (by decide), fun h0_ => absurd ((hoff 13 (by kernel_rfl)).symm.trans h0_) (by decide), fun h0_ => absurd ((hoff 14 (by kernel_rfl)).symm.trans h0_) (by decide), Q_X9_, Q_X10_, Q_X11_⟩
     refine steps_cons ?_ ?_
     ·rintro b a w' ⟨gb531, gb532, gb533, m9_, m10_, m11_, ha, Q_HO_3, Q_BK524, Q_HB, Q_NB532_531, Q_NB531_532, Q_NB533_531, Q_NB531_533, Q_NB533_532, Q_NB532_533, Q_BK531, Q_GW531, Q_GE531, Q_NB524_531, Q_NB531_524, Q_BK532, Q_GW532, Q_GE532, Q_NB524_532, Q_NB532_524, Q_BK533, Q_GW533, Q_GE533, Q_NB524_533, Q_NB533_524, Q_BK531_e12, Q_BK532_e13, Q_BK533_e14, Q_X9_, Q_X10_, Q_X11_⟩ hb_ hon hoff
      refine ⟨_, rfl, fun K hK => ?_⟩
      have e34 : a.tmps[34]? = some (.agg #[.int .i64 (wrap64 ((wrap64 (Int.tdiv x10_1 27)) - 1)), .int .i64 (wrap64 ((Int.tmod (wrap64 (Int.tdiv x10_1 9)) 3) - 1)), .int .i64 (wrap64 ((Int.tmod (wrap64 (Int.tdiv x10_1 3)) 3) - 1)), .int .i64 (wrap64 ((Int.tmod x10_1 3) - 1))]) := by rw [ha]; exact putSel_on (e := (6, 34, .agg #[.int .i64 (wrap64 ((wrap64 (Int.tdiv x10_1 27)) - 1)), .int .i64 (wrap64 ((Int.tmod (wrap64 (Int.tdiv x10_1 9)) 3) - 1)), .int .i64 (wrap64 ((Int.tmod (wrap64 (Int.tdiv x10_1 3)) 3) - 1)), .int .i64 (wrap64 ((Int.tmod x10_1 3) - 1))])) 6 rfl rfl (hon 6 (by kernel_rfl)) rfl
      have e35 : a.tmps[35]? = some (.agg #[.int .i64 1, .int .i64 1]) := by rw [ha]; exact putSel_on (e := (7, 35, .agg #[.int .i64 1, .int .i64 1])) 7 rfl rfl (hon 7 (by kernel_rfl)) rfl
      replace ha := Aside0.mk ha
      have HO_3 := Aside0.mk Q_HO_3
      have BK524 := Aside0.mk Q_BK524
      have HB := Aside0.mk Q_HB
      refine goes_ Tryz.func84 (by kernel_rfl) rfl #[.agg #[.int .i64 (wrap64 ((wrap64 (Int.tdiv x10_1 27)) - 1)), .int .i64 (wrap64 ((Int.tmod (wrap64 (Int.tdiv x10_1 9)) 3) - 1)), .int .i64 (wrap64 ((Int.tmod (wrap64 (Int.tdiv x10_1 3)) 3) - 1)), .int .i64 (wrap64 ((Int.tmod x10_1 3) - 1))], .agg #[.int .i64 1, .int .i64 1]] (by rfl) rfl rfl (by first | (simp only [List.map_toArray, List.map_cons, List.map_nil, Act.eval, Array.getD_eq_getD_getElem?, Option.getD_some, e34, e35]; done) | (simp only [List.map_toArray, List.map_cons, List.map_nil, Act.eval, Array.getD_eq_getD_getElem?, Option.getD_some, e34, e35]; rfl)) ?_
      with_reducible refine (impl_Mat_apply.calls _ _ _ _ _ _ _ _ _ A7.out).mono ?_
      rintro e w22 ⟨rfl, hb⟩
      refine ⟨_, rfl, ?_⟩
      have n0_ := asd (Kd.R_below (kr HO_3) hb)
      have n1_ := bB BK524 hb
      have n2_ := bS1 HB GE524 hb
      have z_BK531 := fun (h0_ : b 9 = true) (h1_ : b 12 = false) => (show w22.heap[gb531]? = some (.cells #[.int .i64 0, .int .i64 0] 38 (0, 0)) from by first | exact (blk_below (g := gb531) (o := .cells #[.int .i64 0, .int .i64 0] 38 (0, 0)) (by (with_reducible repeat (first | refine blk_drewN ?_ _ | refine blk_drew ?_ | refine blk_alloc ?_ _)); exact (Q_BK531 h0_ h1_)) hb))
      have z_BK532 := fun (h0_ : b 10 = true) (h1_ : b 13 = false) => (show w22.heap[gb532]? = some (.cells #[.int .i64 0, .int .i64 0] 38 (0, 0)) from by first | exact (blk_below (g := gb532) (o := .cells #[.int .i64 0, .int .i64 0] 38 (0, 0)) (by (with_reducible repeat (first | refine blk_drewN ?_ _ | refine blk_drew ?_ | refine blk_alloc ?_ _)); exact (Q_BK532 h0_ h1_)) hb))
      have z_BK533 := fun (h0_ : b 11 = true) (h1_ : b 14 = false) => (show w22.heap[gb533]? = some (.cells #[.int .i64 0, .int .i64 0] 38 (0, 0)) from by first | exact (blk_below (g := gb533) (o := .cells #[.int .i64 0, .int .i64 0] 38 (0, 0)) (by (with_reducible repeat (first | refine blk_drewN ?_ _ | refine blk_drew ?_ | refine blk_alloc ?_ _)); exact (Q_BK533 h0_ h1_)) hb))
      clear HO_3
      clear BK524
      clear HB
      have HO_3 := n0_
      have BK524 := n1_
      have HB := n2_
      clear n0_ n1_ n2_
      (try clear hb)
      (try clear hb2)
      (try clear hk)
      (try clear hi)
      refine hK.out _ _ ⟨gb531, gb532, gb533, m9_, m10_, m11_, (by rw [ha.out]; exact putSel_upk 8 hb_ rfl rfl rfl), (kr HO_3), (bkp BK524), (bbw1 HB GE524), Q_NB532_531, Q_NB531_532, Q_NB533_531, Q_NB531_533, Q_NB533_532, Q_NB532_533, z_BK531, Q_GW531, Q_GE531, Q_NB524_531, Q_NB531_524, z_BK532, Q_GW532, Q_GE532, Q_NB524_532, Q_NB532_524, z_BK533, Q_GW533, Q_GE533, Q_NB524_533, Q_NB533_524, fun h0_ => absurd ((hoff 12 (by kernel_rfl)).symm.trans h0_) (by decide), fun h0_ => absurd ((hoff 13 (by kernel_rfl)).symm.trans h0_) (by decide), fun h0_ => absurd ((hoff 14 (by kernel_rfl)).symm.trans h0_) (by decide), Q_X9_, Q_X10_, Q_X11_⟩
     refine steps_cons ?_ ?_
     ·rintro b a w' ⟨gb531, gb532, gb533, m9_, m10_, m11_, ha, Q_HO_3, Q_BK524, Q_HB, Q_NB532_531, Q_NB531_532, Q_NB533_531, Q_NB531_533, Q_NB533_532, Q_NB532_533, Q_BK531, Q_GW531, Q_GE531, Q_NB524_531, Q_NB531_524, Q_BK532, Q_GW532, Q_GE532, Q_NB524_532, Q_NB532_524, Q_BK533, Q_GW533, Q_GE533, Q_NB524_533, Q_NB533_524, Q_BK531_e12, Q_BK532_e13, Q_BK533_e14, Q_X9_, Q_X10_, Q_X11_⟩ hb_ hon hoff
      refine ⟨_, rfl, fun K hK => ?_⟩
      replace ha := Aside0.mk ha
      have HO_3 := Aside0.mk Q_HO_3
      have BK524 := Aside0.mk Q_BK524
      have HB := Aside0.mk Q_HB
      refine box_step ?hg (N := 6) ?hd (cs := #[.int .i64 0, .int .i64 0]) (t := 38) ?hr ?_; (case hd => rfl); (case hg => rfl); (case hr => first | (go_simp; done) | (go_simp; rfl))
      intro gb531 hg w19 hbox hb
      have n0_ := asd (Kd.R_below (kr HO_3) hb)
      have n1_ := bB BK524 hb
      have n2_ := bS1 HB GE524 hb
      have n3_ := asd (hbox)
      have n4_ := ngw1 hg HB GE524
      have n5_ := ngw1 hg HB GE524
      have n6_ := nlt hg BK524
      have n7_ := nsy (nlt hg BK524)
      have z_NB532_531 := fun (h0_ : up b 9 9 = true) (h1_ : up b 9 10 = true) => (show gb532 ≠ gb531 from ((by rw [hg]; exact Nat.ne_of_lt (by cases hq_ : b 13 with | false => exact blk_lt (g := gb532) (Q_BK532 h1_ hq_) | true => exact blk_lt (g := gb532) (Q_BK532_e13 hq_)) : gb532 ≠ gb531)))
      have z_NB531_532 := fun (h0_ : up b 9 9 = true) (h1_ : up b 9 10 = true) => (show gb531 ≠ gb532 from ((by rw [hg]; exact Nat.ne_of_gt (by cases hq_ : b 13 with | false => exact blk_lt (g := gb532) (Q_BK532 h1_ hq_) | true => exact blk_lt (g := gb532) (Q_BK532_e13 hq_)) : gb531 ≠ gb532)))
      have z_NB533_531 := fun (h0_ : up b 9 9 = true) (h1_ : up b 9 11 = true) => (show gb533 ≠ gb531 from ((by rw [hg]; exact Nat.ne_of_lt (by cases hq_ : b 14 with | false => exact blk_lt (g := gb533) (Q_BK533 h1_ hq_) | true => exact blk_lt (g := gb533) (Q_BK533_e14 hq_)) : gb533 ≠ gb531)))
      have z_NB531_533 := fun (h0_ : up b 9 9 = true) (h1_ : up b 9 11 = true) => (show gb531 ≠ gb533 from ((by rw [hg]; exact Nat.ne_of_gt (by cases hq_ : b 14 with | false => exact blk_lt (g := gb533) (Q_BK533 h1_ hq_) | true => exact blk_lt (g := gb533) (Q_BK533_e14 hq_)) : gb531 ≠ gb533)))
      have z_BK532 := fun (h0_ : b 10 = true) (h1_ : b 13 = false) => (show w19.heap[gb532]? = some (.cells #[.int .i64 0, .int .i64 0] 38 (0, 0)) from by first | exact (blk_below (g := gb532) (o := .cells #[.int .i64 0, .int .i64 0] 38 (0, 0)) (by (with_reducible repeat (first | refine blk_drewN ?_ _ | refine blk_drew ?_ | refine blk_alloc ?_ _)); exact (Q_BK532 h0_ h1_)) hb))
      have z_BK533 := fun (h0_ : b 11 = true) (h1_ : b 14 = false) => (show w19.heap[gb533]? = some (.cells #[.int .i64 0, .int .i64 0] 38 (0, 0)) from by first | exact (blk_below (g := gb533) (o := .cells #[.int .i64 0, .int .i64 0] 38 (0, 0)) (by (with_reducible repeat (first | refine blk_drewN ?_ _ | refine blk_drew ?_ | refine blk_alloc ?_ _)); exact (Q_BK533 h0_ h1_)) hb))
      clear HO_3
      clear BK524
      clear HB
      have HO_3 := n0_
      have BK524 := n1_
      have HB := n2_
      have BK531 := n3_
      have GW531 := n4_
      have GE531 := n5_
      have NB524_531 := n6_
      have NB531_524 := n7_
      clear n0_ n1_ n2_ n3_ n4_ n5_ n6_ n7_
      clear hb hbox hg
      refine hK.out _ _ ⟨gb531, gb532, gb533, (.pointer (some ⟨gb531, 0, none⟩)), m10_, m11_, (by rw [ha.out]; exact putSel_upk 9 hb_ rfl rfl rfl), (kr HO_3), (bkp BK524), (bbw2 HB GE524 GE531), @z_NB532_531, @z_NB531_532, @z_NB533_531, @z_NB531_533, Q_NB533_532, Q_NB532_533, fun _ _ => (bkp BK531), fun _ => GW531.out, fun _ => GE531.out, fun _ => NB524_531.out, fun _ => NB531_524.out, z_BK532, Q_GW532, Q_GE532, Q_NB524_532, Q_NB532_524, z_BK533, Q_GW533, Q_GE533, Q_NB524_533, Q_NB533_524, fun h0_ => absurd ((hoff 12 (by kernel_rfl)).symm.trans h0_) (by decide), fun h0_ => absurd ((hoff 13 (by kernel_rfl)).symm.trans h0_) (by decide), fun h0_ => absurd ((hoff 14 (by kernel_rfl)).symm.trans h0_) (by decide), fun _ => rfl, Q_X10_, Q_X11_⟩
     refine steps_cons ?_ ?_
     ·rintro b a w' ⟨gb531, gb532, gb533, m9_, m10_, m11_, ha, Q_HO_3, Q_BK524, Q_HB, Q_NB532_531, Q_NB531_532, Q_NB533_531, Q_NB531_533, Q_NB533_532, Q_NB532_533, Q_BK531, Q_GW531, Q_GE531, Q_NB524_531, Q_NB531_524, Q_BK532, Q_GW532, Q_GE532, Q_NB524_532, Q_NB532_524, Q_BK533, Q_GW533, Q_GE533, Q_NB524_533, Q_NB533_524, Q_BK531_e12, Q_BK532_e13, Q_BK533_e14, Q_X9_, Q_X10_, Q_X11_⟩ hb_ hon hoff
      refine ⟨_, rfl, fun K hK => ?_⟩
      replace ha := Aside0.mk ha
      have HO_3 := Aside0.mk Q_HO_3
      have BK524 := Aside0.mk Q_BK524
      have HB := Aside0.mk Q_HB
      refine box_step ?hg (N := 7) ?hd (cs := #[.int .i64 0, .int .i64 0]) (t := 38) ?hr ?_; (case hd => rfl); (case hg => rfl); (case hr => first | (go_simp; done) | (go_simp; rfl))
      intro gb532 hg w19 hbox hb
      have n0_ := asd (Kd.R_below (kr HO_3) hb)
      have n1_ := bB BK524 hb
      have n2_ := bS1 HB GE524 hb
      have n3_ := asd (hbox)
      have n4_ := ngw1 hg HB GE524
      have n5_ := ngw1 hg HB GE524
      have n6_ := nlt hg BK524
      have n7_ := nsy (nlt hg BK524)
      have z_NB532_531 := fun (h0_ : up b 10 9 = true) (h1_ : up b 10 10 = true) => (show gb532 ≠ gb531 from ((by rw [hg]; exact Nat.ne_of_gt (by cases hq_ : b 12 with | false => exact blk_lt (g := gb531) (Q_BK531 h0_ hq_) | true => exact blk_lt (g := gb531) (Q_BK531_e12 hq_)) : gb532 ≠ gb531)))
      have z_NB531_532 := fun (h0_ : up b 10 9 = true) (h1_ : up b 10 10 = true) => (show gb531 ≠ gb532 from ((by rw [hg]; exact Nat.ne_of_lt (by cases hq_ : b 12 with | false => exact blk_lt (g := gb531) (Q_BK531 h0_ hq_) | true => exact blk_lt (g := gb531) (Q_BK531_e12 hq_)) : gb531 ≠ gb532)))
      have z_NB533_532 := fun (h0_ : up b 10 10 = true) (h1_ : up b 10 11 = true) => (show gb533 ≠ gb532 from ((by rw [hg]; exact Nat.ne_of_lt (by cases hq_ : b 14 with | false => exact blk_lt (g := gb533) (Q_BK533 h1_ hq_) | true => exact blk_lt (g := gb533) (Q_BK533_e14 hq_)) : gb533 ≠ gb532)))
      have z_NB532_533 := fun (h0_ : up b 10 10 = true) (h1_ : up b 10 11 = true) => (show gb532 ≠ gb533 from ((by rw [hg]; exact Nat.ne_of_gt (by cases hq_ : b 14 with | false => exact blk_lt (g := gb533) (Q_BK533 h1_ hq_) | true => exact blk_lt (g := gb533) (Q_BK533_e14 hq_)) : gb532 ≠ gb533)))
      have z_BK531 := fun (h0_ : b 9 = true) (h1_ : b 12 = false) => (show w19.heap[gb531]? = some (.cells #[.int .i64 0, .int .i64 0] 38 (0, 0)) from by first | exact (blk_below (g := gb531) (o := .cells #[.int .i64 0, .int .i64 0] 38 (0, 0)) (by (with_reducible repeat (first | refine blk_drewN ?_ _ | refine blk_drew ?_ | refine blk_alloc ?_ _)); exact (Q_BK531 h0_ h1_)) hb))
      have z_BK533 := fun (h0_ : b 11 = true) (h1_ : b 14 = false) => (show w19.heap[gb533]? = some (.cells #[.int .i64 0, .int .i64 0] 38 (0, 0)) from by first | exact (blk_below (g := gb533) (o := .cells #[.int .i64 0, .int .i64 0] 38 (0, 0)) (by (with_reducible repeat (first | refine blk_drewN ?_ _ | refine blk_drew ?_ | refine blk_alloc ?_ _)); exact (Q_BK533 h0_ h1_)) hb))
      clear HO_3
      clear BK524
      clear HB
      have HO_3 := n0_
      have BK524 := n1_
      have HB := n2_
      have BK532 := n3_
      have GW532 := n4_
      have GE532 := n5_
      have NB524_532 := n6_
      have NB532_524 := n7_
      clear n0_ n1_ n2_ n3_ n4_ n5_ n6_ n7_
      clear hb hbox hg
      refine hK.out _ _ ⟨gb531, gb532, gb533, m9_, (.pointer (some ⟨gb532, 0, none⟩)), m11_, (by rw [ha.out]; exact putSel_upk 10 hb_ rfl rfl rfl), (kr HO_3), (bkp BK524), (bbw2 HB GE524 GE532), @z_NB532_531, @z_NB531_532, Q_NB533_531, Q_NB531_533, @z_NB533_532, @z_NB532_533, z_BK531, Q_GW531, Q_GE531, Q_NB524_531, Q_NB531_524, fun _ _ => (bkp BK532), fun _ => GW532.out, fun _ => GE532.out, fun _ => NB524_532.out, fun _ => NB532_524.out, z_BK533, Q_GW533, Q_GE533, Q_NB524_533, Q_NB533_524, fun h0_ => absurd ((hoff 12 (by kernel_rfl)).symm.trans h0_) (by decide), fun h0_ => absurd ((hoff 13 (by kernel_rfl)).symm.trans h0_) (by decide), fun h0_ => absurd ((hoff 14 (by kernel_rfl)).symm.trans h0_) (by decide), Q_X9_, fun _ => rfl, Q_X11_⟩
     refine steps_cons ?_ ?_
     ·rintro b a w' ⟨gb531, gb532, gb533, m9_, m10_, m11_, ha, Q_HO_3, Q_BK524, Q_HB, Q_NB532_531, Q_NB531_532, Q_NB533_531, Q_NB531_533, Q_NB533_532, Q_NB532_533, Q_BK531, Q_GW531, Q_GE531, Q_NB524_531, Q_NB531_524, Q_BK532, Q_GW532, Q_GE532, Q_NB524_532, Q_NB532_524, Q_BK533, Q_GW533, Q_GE533, Q_NB524_533, Q_NB533_524, Q_BK531_e12, Q_BK532_e13, Q_BK533_e14, Q_X9_, Q_X10_, Q_X11_⟩ hb_ hon hoff
      refine ⟨_, rfl, fun K hK => ?_⟩
      replace ha := Aside0.mk ha
      have HO_3 := Aside0.mk Q_HO_3
      have BK524 := Aside0.mk Q_BK524
      have HB := Aside0.mk Q_HB
      refine box_step ?hg (N := 8) ?hd (cs := #[.int .i64 0, .int .i64 0]) (t := 38) ?hr ?_; (case hd => rfl); (case hg => rfl); (case hr => first | (go_simp; done) | (go_simp; rfl))
      intro gb533 hg w19 hbox hb
      have n0_ := asd (Kd.R_below (kr HO_3) hb)
      have n1_ := bB BK524 hb
      have n2_ := bS1 HB GE524 hb
      have n3_ := asd (hbox)
      have n4_ := ngw1 hg HB GE524
      have n5_ := ngw1 hg HB GE524
      have n6_ := nlt hg BK524
      have n7_ := nsy (nlt hg BK524)
      have z_NB533_531 := fun (h0_ : up b 11 9 = true) (h1_ : up b 11 11 = true) => (show gb533 ≠ gb531 from ((by rw [hg]; exact Nat.ne_of_gt (by cases hq_ : b 12 with | false => exact blk_lt (g := gb531) (Q_BK531 h0_ hq_) | true => exact blk_lt (g := gb531) (Q_BK531_e12 hq_)) : gb533 ≠ gb531)))
      have z_NB531_533 := fun (h0_ : up b 11 9 = true) (h1_ : up b 11 11 = true) => (show gb531 ≠ gb533 from ((by rw [hg]; exact Nat.ne_of_lt (by cases hq_ : b 12 with | false => exact blk_lt (g := gb531) (Q_BK531 h0_ hq_) | true => exact blk_lt (g := gb531) (Q_BK531_e12 hq_)) : gb531 ≠ gb533)))
      have z_NB533_532 := fun (h0_ : up b 11 10 = true) (h1_ : up b 11 11 = true) => (show gb533 ≠ gb532 from ((by rw [hg]; exact Nat.ne_of_gt (by cases hq_ : b 13 with | false => exact blk_lt (g := gb532) (Q_BK532 h0_ hq_) | true => exact blk_lt (g := gb532) (Q_BK532_e13 hq_)) : gb533 ≠ gb532)))
      have z_NB532_533 := fun (h0_ : up b 11 10 = true) (h1_ : up b 11 11 = true) => (show gb532 ≠ gb533 from ((by rw [hg]; exact Nat.ne_of_lt (by cases hq_ : b 13 with | false => exact blk_lt (g := gb532) (Q_BK532 h0_ hq_) | true => exact blk_lt (g := gb532) (Q_BK532_e13 hq_)) : gb532 ≠ gb533)))
      have z_BK531 := fun (h0_ : b 9 = true) (h1_ : b 12 = false) => (show w19.heap[gb531]? = some (.cells #[.int .i64 0, .int .i64 0] 38 (0, 0)) from by first | exact (blk_below (g := gb531) (o := .cells #[.int .i64 0, .int .i64 0] 38 (0, 0)) (by (with_reducible repeat (first | refine blk_drewN ?_ _ | refine blk_drew ?_ | refine blk_alloc ?_ _)); exact (Q_BK531 h0_ h1_)) hb))
      have z_BK532 := fun (h0_ : b 10 = true) (h1_ : b 13 = false) => (show w19.heap[gb532]? = some (.cells #[.int .i64 0, .int .i64 0] 38 (0, 0)) from by first | exact (blk_below (g := gb532) (o := .cells #[.int .i64 0, .int .i64 0] 38 (0, 0)) (by (with_reducible repeat (first | refine blk_drewN ?_ _ | refine blk_drew ?_ | refine blk_alloc ?_ _)); exact (Q_BK532 h0_ h1_)) hb))
      clear HO_3
      clear BK524
      clear HB
      have HO_3 := n0_
      have BK524 := n1_
      have HB := n2_
      have BK533 := n3_
      have GW533 := n4_
      have GE533 := n5_
      have NB524_533 := n6_
      have NB533_524 := n7_
      clear n0_ n1_ n2_ n3_ n4_ n5_ n6_ n7_
      clear hb hbox hg
      refine hK.out _ _ ⟨gb531, gb532, gb533, m9_, m10_, (.pointer (some ⟨gb533, 0, none⟩)), (by rw [ha.out]; exact putSel_upk 11 hb_ rfl rfl rfl), (kr HO_3), (bkp BK524), (bbw2 HB GE524 GE533), Q_NB532_531, Q_NB531_532, @z_NB533_531, @z_NB531_533, @z_NB533_532, @z_NB532_533, z_BK531, Q_GW531, Q_GE531, Q_NB524_531, Q_NB531_524, z_BK532, Q_GW532, Q_GE532, Q_NB524_532, Q_NB532_524, fun _ _ => (bkp BK533), fun _ => GW533.out, fun _ => GE533.out, fun _ => NB524_533.out, fun _ => NB533_524.out, fun h0_ => absurd ((hoff 12 (by kernel_rfl)).symm.trans h0_) (by decide), fun h0_ => absurd ((hoff 13 (by kernel_rfl)).symm.trans h0_) (by decide), fun h0_ => absurd ((hoff 14 (by kernel_rfl)).symm.trans h0_) (by decide), Q_X9_, Q_X10_, fun _ => rfl⟩
     refine steps_cons ?_ ?_
     ·rintro b a w' ⟨gb531, gb532, gb533, m9_, m10_, m11_, ha, Q_HO_3, Q_BK524, Q_HB, Q_NB532_531, Q_NB531_532, Q_NB533_531, Q_NB531_533, Q_NB533_532, Q_NB532_533, Q_BK531, Q_GW531, Q_GE531, Q_NB524_531, Q_NB531_524, Q_BK532, Q_GW532, Q_GE532, Q_NB524_532, Q_NB532_524, Q_BK533, Q_GW533, Q_GE533, Q_NB524_533, Q_NB533_524, Q_BK531_e12, Q_BK532_e13, Q_BK533_e14, Q_X9_, Q_X10_, Q_X11_⟩ hb_ hon hoff
      refine ⟨_, rfl, fun K hK => ?_⟩
      have e6 : a.tmps[6]? = some (m9_) := by rw [ha]; exact putSel_on (e := (9, 6, m9_)) 9 rfl rfl (hon 9 (by kernel_rfl)) rfl
      rw [Q_X9_ (hon 9 (by kernel_rfl))] at e6
      have e30 : a.tmps[30]? = some (.agg #[.int .i64 t525, .int .i64 t526]) := by rw [ha]; exact putSel_on (e := (2, 30, .agg #[.int .i64 t525, .int .i64 t526])) 2 rfl rfl (hon 2 (by kernel_rfl)) rfl
      replace ha := Aside0.mk ha
      have HO_3 := Aside0.mk Q_HO_3
      have BK524 := Aside0.mk Q_BK524
      have HB := Aside0.mk Q_HB
      have NB532_531 := asd (Q_NB532_531 (hon 9 (by kernel_rfl)) (hon 10 (by kernel_rfl)))
      have NB531_532 := asd (Q_NB531_532 (hon 9 (by kernel_rfl)) (hon 10 (by kernel_rfl)))
      have NB533_531 := asd (Q_NB533_531 (hon 9 (by kernel_rfl)) (hon 11 (by kernel_rfl)))
      have NB531_533 := asd (Q_NB531_533 (hon 9 (by kernel_rfl)) (hon 11 (by kernel_rfl)))
      have NB533_532 := asd (Q_NB533_532 (hon 10 (by kernel_rfl)) (hon 11 (by kernel_rfl)))
      have NB532_533 := asd (Q_NB532_533 (hon 10 (by kernel_rfl)) (hon 11 (by kernel_rfl)))
      have BK531 := asd (Q_BK531 (hon 9 (by kernel_rfl)) hb_)
      have GW531 := asd (Q_GW531 (hon 9 (by kernel_rfl)))
      have GE531 := asd (Q_GE531 (hon 9 (by kernel_rfl)))
      have NB524_531 := asd (Q_NB524_531 (hon 9 (by kernel_rfl)))
      have NB531_524 := asd (Q_NB531_524 (hon 9 (by kernel_rfl)))
      have BK532 := asd (Q_BK532 (hon 10 (by kernel_rfl)) (hoff 13 (by kernel_rfl)))
      have GW532 := asd (Q_GW532 (hon 10 (by kernel_rfl)))
      have GE532 := asd (Q_GE532 (hon 10 (by kernel_rfl)))
      have NB524_532 := asd (Q_NB524_532 (hon 10 (by kernel_rfl)))
      have NB532_524 := asd (Q_NB532_524 (hon 10 (by kernel_rfl)))
      have BK533 := asd (Q_BK533 (hon 11 (by kernel_rfl)) (hoff 14 (by kernel_rfl)))
      have GW533 := asd (Q_GW533 (hon 11 (by kernel_rfl)))
      have GE533 := asd (Q_GE533 (hon 11 (by kernel_rfl)))
      have NB524_533 := asd (Q_NB524_533 (hon 11 (by kernel_rfl)))
      have NB533_524 := asd (Q_NB533_524 (hon 11 (by kernel_rfl)))
      have hs26 : w'.cell? ⟨gb531, 0, none⟩ = some (.int .i64 0) := bcl BK531 0
      have hfs26 := blk_frozen BK531.out 0
      have hns26_0 := NB524_531.out
      have hns26_2 := NB532_531.out
      have hns26_3 := NB533_531.out
      have hms26_0 := NB531_524.out
      have hms26_2 := NB531_532.out
      have hms26_3 := NB531_533.out
      have hs27 : w'.cell? ⟨gb531, 1, none⟩ = some (.int .i64 0) := bcl BK531 1
      have hfs27 := blk_frozen BK531.out 1
      have hns27_0 := NB524_531.out
      have hns27_2 := NB532_531.out
      have hns27_3 := NB533_531.out
      have hms27_0 := NB531_524.out
      have hms27_2 := NB531_532.out
      have hms27_3 := NB531_533.out
      refine skip_ (w1 := ?_) (by rfl) rfl ?_ ?_
      rotate_left
      ·go_simp
       rfl
      refine hK.out _ _ ⟨gb531, gb532, gb533, m9_, m10_, m11_, (by rw [ha.out]; exact putSel_none (v := undef) rfl), (by (with_reducible repeat (first | apply Kd.R_alloc | apply Kd.R_drewN | apply Kd.R_drew)); exact Kd.R_mono (rw2 (Kd.R_types HO_3.out BK531.out (by decide))) (fun _ hk => hk.1)), (bq1 BK524 NB524_531), (bbw4 HB GE524 GE531 GE532 GE533), fun _ _ => NB532_531.out, fun _ _ => NB531_532.out, fun _ _ => NB533_531.out, fun _ _ => NB531_533.out, fun _ _ => NB533_532.out, fun _ _ => NB532_533.out, fun _ h1_ => absurd ((up_self b 12).symm.trans h1_) (by decide), fun _ => GW531.out, fun _ => GE531.out, fun _ => NB524_531.out, fun _ => NB531_524.out, fun _ _ => (bq1 BK532 NB532_531), fun _ => GW532.out, fun _ => GE532.out, fun _ => NB524_532.out, fun _ => NB532_524.out, fun _ _ => (bq1 BK533 NB533_531), fun _ => GW533.out, fun _ => GE533.out, fun _ => NB524_533.out, fun _ => NB533_524.out, fun _ => (bq0 BK531), fun h0_ => absurd ((hoff 13 (by kernel_rfl)).symm.trans h0_) (by decide), fun h0_ => absurd ((hoff 14 (by kernel_rfl)).symm.trans h0_) (by decide), Q_X9_, Q_X10_, Q_X11_⟩
     refine steps_cons ?_ ?_
     ·rintro b a w' ⟨gb531, gb532, gb533, m9_, m10_, m11_, ha, Q_HO_3, Q_BK524, Q_HB, Q_NB532_531, Q_NB531_532, Q_NB533_531, Q_NB531_533, Q_NB533_532, Q_NB532_533, Q_BK531, Q_GW531, Q_GE531, Q_NB524_531, Q_NB531_524, Q_BK532, Q_GW532, Q_GE532, Q_NB524_532, Q_NB532_524, Q_BK533, Q_GW533, Q_GE533, Q_NB524_533, Q_NB533_524, Q_BK531_e12, Q_BK532_e13, Q_BK533_e14, Q_X9_, Q_X10_, Q_X11_⟩ hb_ hon hoff
      refine ⟨_, rfl, fun K hK => ?_⟩
      have e7 : a.tmps[7]? = some (m10_) := by rw [ha]; exact putSel_on (e := (10, 7, m10_)) 10 rfl rfl (hon 10 (by kernel_rfl)) rfl
      rw [Q_X10_ (hon 10 (by kernel_rfl))] at e7
      have e33 : a.tmps[33]? = some (.agg #[.int .i64 t527, .int .i64 t528]) := by rw [ha]; exact putSel_on (e := (5, 33, .agg #[.int .i64 t527, .int .i64 t528])) 5 rfl rfl (hon 5 (by kernel_rfl)) rfl
      replace ha := Aside0.mk ha
      have HO_3 := Aside0.mk Q_HO_3
      have BK524 := Aside0.mk Q_BK524
      have HB := Aside0.mk Q_HB
      have NB532_531 := asd (Q_NB532_531 (hon 9 (by kernel_rfl)) (hon 10 (by kernel_rfl)))
      have NB531_532 := asd (Q_NB531_532 (hon 9 (by kernel_rfl)) (hon 10 (by kernel_rfl)))
      have NB533_531 := asd (Q_NB533_531 (hon 9 (by kernel_rfl)) (hon 11 (by kernel_rfl)))
      have NB531_533 := asd (Q_NB531_533 (hon 9 (by kernel_rfl)) (hon 11 (by kernel_rfl)))
      have NB533_532 := asd (Q_NB533_532 (hon 10 (by kernel_rfl)) (hon 11 (by kernel_rfl)))
      have NB532_533 := asd (Q_NB532_533 (hon 10 (by kernel_rfl)) (hon 11 (by kernel_rfl)))
      have GW531 := asd (Q_GW531 (hon 9 (by kernel_rfl)))
      have GE531 := asd (Q_GE531 (hon 9 (by kernel_rfl)))
      have NB524_531 := asd (Q_NB524_531 (hon 9 (by kernel_rfl)))
      have NB531_524 := asd (Q_NB531_524 (hon 9 (by kernel_rfl)))
      have BK532 := asd (Q_BK532 (hon 10 (by kernel_rfl)) hb_)
      have GW532 := asd (Q_GW532 (hon 10 (by kernel_rfl)))
      have GE532 := asd (Q_GE532 (hon 10 (by kernel_rfl)))
      have NB524_532 := asd (Q_NB524_532 (hon 10 (by kernel_rfl)))
      have NB532_524 := asd (Q_NB532_524 (hon 10 (by kernel_rfl)))
      have BK533 := asd (Q_BK533 (hon 11 (by kernel_rfl)) (hoff 14 (by kernel_rfl)))
      have GW533 := asd (Q_GW533 (hon 11 (by kernel_rfl)))
      have GE533 := asd (Q_GE533 (hon 11 (by kernel_rfl)))
      have NB524_533 := asd (Q_NB524_533 (hon 11 (by kernel_rfl)))
      have NB533_524 := asd (Q_NB533_524 (hon 11 (by kernel_rfl)))
      have BK531 := asd (Q_BK531_e12 (hon 12 (by kernel_rfl)))
      have hs28 : w'.cell? ⟨gb532, 0, none⟩ = some (.int .i64 0) := bcl BK532 0
      have hfs28 := blk_frozen BK532.out 0
      have hns28_0 := NB524_532.out
      have hns28_1 := NB531_532.out
      have hns28_3 := NB533_532.out
      have hms28_0 := NB532_524.out
      have hms28_1 := NB532_531.out
      have hms28_3 := NB532_533.out
      have hs29 : w'.cell? ⟨gb532, 1, none⟩ = some (.int .i64 0) := bcl BK532 1
      have hfs29 := blk_frozen BK532.out 1
      have hns29_0 := NB524_532.out
      have hns29_1 := NB531_532.out
      have hns29_3 := NB533_532.out
      have hms29_0 := NB532_524.out
      have hms29_1 := NB532_531.out
      have hms29_3 := NB532_533.out
      refine skip_ (w1 := ?_) (by rfl) rfl ?_ ?_
      rotate_left
      ·go_simp
       rfl
      refine hK.out _ _ ⟨gb531, gb532, gb533, m9_, m10_, m11_, (by rw [ha.out]; exact putSel_none (v := undef) rfl), (by (with_reducible repeat (first | apply Kd.R_alloc | apply Kd.R_drewN | apply Kd.R_drew)); exact Kd.R_mono (rw2 (Kd.R_types HO_3.out BK532.out (by decide))) (fun _ hk => hk.1)), (bq1 BK524 NB524_532), (bbw4 HB GE524 GE531 GE532 GE533), fun _ _ => NB532_531.out, fun _ _ => NB531_532.out, fun _ _ => NB533_531.out, fun _ _ => NB531_533.out, fun _ _ => NB533_532.out, fun _ _ => NB532_533.out, fun _ h1_ => absurd ((hon 12 (by kernel_rfl)).symm.trans h1_) (by decide), fun _ => GW531.out, fun _ => GE531.out, fun _ => NB524_531.out, fun _ => NB531_524.out, fun _ h1_ => absurd ((up_self b 13).symm.trans h1_) (by decide), fun _ => GW532.out, fun _ => GE532.out, fun _ => NB524_532.out, fun _ => NB532_524.out, fun _ _ => (bq1 BK533 NB533_532), fun _ => GW533.out, fun _ => GE533.out, fun _ => NB524_533.out, fun _ => NB533_524.out, fun _ => (bq1 BK531 NB531_532), fun _ => (bq0 BK532), fun h0_ => absurd ((hoff 14 (by kernel_rfl)).symm.trans h0_) (by decide), Q_X9_, Q_X10_, Q_X11_⟩
     refine steps_cons ?_ ?_
     ·rintro b a w' ⟨gb531, gb532, gb533, m9_, m10_, m11_, ha, Q_HO_3, Q_BK524, Q_HB, Q_NB532_531, Q_NB531_532, Q_NB533_531, Q_NB531_533, Q_NB533_532, Q_NB532_533, Q_BK531, Q_GW531, Q_GE531, Q_NB524_531, Q_NB531_524, Q_BK532, Q_GW532, Q_GE532, Q_NB524_532, Q_NB532_524, Q_BK533, Q_GW533, Q_GE533, Q_NB524_533, Q_NB533_524, Q_BK531_e12, Q_BK532_e13, Q_BK533_e14, Q_X9_, Q_X10_, Q_X11_⟩ hb_ hon hoff
      refine ⟨_, rfl, fun K hK => ?_⟩
      have e8 : a.tmps[8]? = some (m11_) := by rw [ha]; exact putSel_on (e := (11, 8, m11_)) 11 rfl rfl (hon 11 (by kernel_rfl)) rfl
      rw [Q_X11_ (hon 11 (by kernel_rfl))] at e8
      have e36 : a.tmps[36]? = some (.agg #[.int .i64 t529, .int .i64 t530]) := by rw [ha]; exact putSel_on (e := (8, 36, .agg #[.int .i64 t529, .int .i64 t530])) 8 rfl rfl (hon 8 (by kernel_rfl)) rfl
      replace ha := Aside0.mk ha
      have HO_3 := Aside0.mk Q_HO_3
      have BK524 := Aside0.mk Q_BK524
      have HB := Aside0.mk Q_HB
      have NB532_531 := asd (Q_NB532_531 (hon 9 (by kernel_rfl)) (hon 10 (by kernel_rfl)))
      have NB531_532 := asd (Q_NB531_532 (hon 9 (by kernel_rfl)) (hon 10 (by kernel_rfl)))
      have NB533_531 := asd (Q_NB533_531 (hon 9 (by kernel_rfl)) (hon 11 (by kernel_rfl)))
      have NB531_533 := asd (Q_NB531_533 (hon 9 (by kernel_rfl)) (hon 11 (by kernel_rfl)))
      have NB533_532 := asd (Q_NB533_532 (hon 10 (by kernel_rfl)) (hon 11 (by kernel_rfl)))
      have NB532_533 := asd (Q_NB532_533 (hon 10 (by kernel_rfl)) (hon 11 (by kernel_rfl)))
      have GW531 := asd (Q_GW531 (hon 9 (by kernel_rfl)))
      have GE531 := asd (Q_GE531 (hon 9 (by kernel_rfl)))
      have NB524_531 := asd (Q_NB524_531 (hon 9 (by kernel_rfl)))
      have NB531_524 := asd (Q_NB531_524 (hon 9 (by kernel_rfl)))
      have GW532 := asd (Q_GW532 (hon 10 (by kernel_rfl)))
      have GE532 := asd (Q_GE532 (hon 10 (by kernel_rfl)))
      have NB524_532 := asd (Q_NB524_532 (hon 10 (by kernel_rfl)))
      have NB532_524 := asd (Q_NB532_524 (hon 10 (by kernel_rfl)))
      have BK533 := asd (Q_BK533 (hon 11 (by kernel_rfl)) hb_)
      have GW533 := asd (Q_GW533 (hon 11 (by kernel_rfl)))
      have GE533 := asd (Q_GE533 (hon 11 (by kernel_rfl)))
      have NB524_533 := asd (Q_NB524_533 (hon 11 (by kernel_rfl)))
      have NB533_524 := asd (Q_NB533_524 (hon 11 (by kernel_rfl)))
      have BK531 := asd (Q_BK531_e12 (hon 12 (by kernel_rfl)))
      have BK532 := asd (Q_BK532_e13 (hon 13 (by kernel_rfl)))
      have hs30 : w'.cell? ⟨gb533, 0, none⟩ = some (.int .i64 0) := bcl BK533 0
      have hfs30 := blk_frozen BK533.out 0
      have hns30_0 := NB524_533.out
      have hns30_1 := NB531_533.out
      have hns30_2 := NB532_533.out
      have hms30_0 := NB533_524.out
      have hms30_1 := NB533_531.out
      have hms30_2 := NB533_532.out
      have hs31 : w'.cell? ⟨gb533, 1, none⟩ = some (.int .i64 0) := bcl BK533 1
      have hfs31 := blk_frozen BK533.out 1
      have hns31_0 := NB524_533.out
      have hns31_1 := NB531_533.out
      have hns31_2 := NB532_533.out
      have hms31_0 := NB533_524.out
      have hms31_1 := NB533_531.out
      have hms31_2 := NB533_532.out
      refine skip_ (w1 := ?_) (by rfl) rfl ?_ ?_
      rotate_left
      ·go_simp
       rfl
      refine hK.out _ _ ⟨gb531, gb532, gb533, m9_, m10_, m11_, (by rw [ha.out]; exact putSel_none (v := undef) rfl), (by (with_reducible repeat (first | apply Kd.R_alloc | apply Kd.R_drewN | apply Kd.R_drew)); exact Kd.R_mono (rw2 (Kd.R_types HO_3.out BK533.out (by decide))) (fun _ hk => hk.1)), (bq1 BK524 NB524_533), (bbw4 HB GE524 GE531 GE532 GE533), fun _ _ => NB532_531.out, fun _ _ => NB531_532.out, fun _ _ => NB533_531.out, fun _ _ => NB531_533.out, fun _ _ => NB533_532.out, fun _ _ => NB532_533.out, fun _ h1_ => absurd ((hon 12 (by kernel_rfl)).symm.trans h1_) (by decide), fun _ => GW531.out, fun _ => GE531.out, fun _ => NB524_531.out, fun _ => NB531_524.out, fun _ h1_ => absurd ((hon 13 (by kernel_rfl)).symm.trans h1_) (by decide), fun _ => GW532.out, fun _ => GE532.out, fun _ => NB524_532.out, fun _ => NB532_524.out, fun _ h1_ => absurd ((up_self b 14).symm.trans h1_) (by decide), fun _ => GW533.out, fun _ => GE533.out, fun _ => NB524_533.out, fun _ => NB533_524.out, fun _ => (bq1 BK531 NB531_533), fun _ => (bq1 BK532 NB532_533), fun _ => (bq0 BK533), Q_X9_, Q_X10_, Q_X11_⟩
     exact steps_nil
    rintro b a w31 hall ⟨gb531, gb532, gb533, m9_, m10_, m11_, ha, Q_HO_3, Q_BK524, Q_HB, Q_NB532_531, Q_NB531_532, Q_NB533_531, Q_NB531_533, Q_NB533_532, Q_NB532_533, Q_BK531, Q_GW531, Q_GE531, Q_NB524_531, Q_NB531_524, Q_BK532, Q_GW532, Q_GE532, Q_NB524_532, Q_NB532_524, Q_BK533, Q_GW533, Q_GE533, Q_NB524_533, Q_NB533_524, Q_BK531_e12, Q_BK532_e13, Q_BK533_e14, Q_X9_, Q_X10_, Q_X11_⟩
    clear BK524 HB HO_3
    have hb0_ := hall 0 (by kernel_rfl)
    have hb1_ := hall 1 (by kernel_rfl)
    have hb2_ := hall 2 (by kernel_rfl)
    have hb3_ := hall 3 (by kernel_rfl)
    have hb4_ := hall 4 (by kernel_rfl)
    have hb5_ := hall 5 (by kernel_rfl)
    have hb6_ := hall 6 (by kernel_rfl)
    have hb7_ := hall 7 (by kernel_rfl)
    have hb8_ := hall 8 (by kernel_rfl)
    have hb9_ := hall 9 (by kernel_rfl)
    have hb10_ := hall 10 (by kernel_rfl)
    have hb11_ := hall 11 (by kernel_rfl)
    have hb12_ := hall 12 (by kernel_rfl)
    have hb13_ := hall 13 (by kernel_rfl)
    have hb14_ := hall 14 (by kernel_rfl)
    subst ha
    obtain rfl := Q_X9_ hb9_
    obtain rfl := Q_X10_ hb10_
    obtain rfl := Q_X11_ hb11_
    simp only [putSel, hb0_, hb1_, hb2_, hb3_, hb4_, hb5_, hb6_, hb7_, hb8_, hb9_, hb10_, hb11_, hb12_, hb13_, hb14_, if_true, Act.put, sA, sB, sC]
    have HO_3 := Aside0.mk Q_HO_3
    clear Q_HO_3
    have BK524 := Aside0.mk Q_BK524
    clear Q_BK524
    have HB := Aside0.mk Q_HB
    clear Q_HB
    have NB532_531 := asd (Q_NB532_531 hb9_ hb10_)
    clear Q_NB532_531
    have NB531_532 := asd (Q_NB531_532 hb9_ hb10_)
    clear Q_NB531_532
    have NB533_531 := asd (Q_NB533_531 hb9_ hb11_)
    clear Q_NB533_531
    have NB531_533 := asd (Q_NB531_533 hb9_ hb11_)
    clear Q_NB531_533
    have NB533_532 := asd (Q_NB533_532 hb10_ hb11_)
    clear Q_NB533_532
    have NB532_533 := asd (Q_NB532_533 hb10_ hb11_)
    clear Q_NB532_533
    clear Q_BK531
    have GW531 := asd (Q_GW531 hb9_)
    clear Q_GW531
    have GE531 := asd (Q_GE531 hb9_)
    clear Q_GE531
    have NB524_531 := asd (Q_NB524_531 hb9_)
    clear Q_NB524_531
    have NB531_524 := asd (Q_NB531_524 hb9_)
    clear Q_NB531_524
    clear Q_BK532
    have GW532 := asd (Q_GW532 hb10_)
    clear Q_GW532
    have GE532 := asd (Q_GE532 hb10_)
    clear Q_GE532
    have NB524_532 := asd (Q_NB524_532 hb10_)
    clear Q_NB524_532
    have NB532_524 := asd (Q_NB532_524 hb10_)
    clear Q_NB532_524
    clear Q_BK533
    have GW533 := asd (Q_GW533 hb11_)
    clear Q_GW533
    have GE533 := asd (Q_GE533 hb11_)
    clear Q_GE533
    have NB524_533 := asd (Q_NB524_533 hb11_)
    clear Q_NB524_533
    have NB533_524 := asd (Q_NB533_524 hb11_)
    clear Q_NB533_524
    have BK531 := asd (Q_BK531_e12 hb12_)
    clear Q_BK531_e12
    have BK532 := asd (Q_BK532_e13 hb13_)
    clear Q_BK532_e13
    have BK533 := asd (Q_BK533_e14 hb14_)
    clear Q_BK533_e14
    clear hall hb0_ hb1_ hb2_ hb3_ hb4_ hb5_ hb6_ hb7_ hb8_ hb9_ hb10_ hb11_ hb12_ hb13_ hb14_
    have hnb32 := NB531_524.out
    have hnc32 := NB524_531.out
    have hnb33 := NB531_532.out
    have hnc33 := NB532_531.out
    have hnb34 := NB531_533.out
    have hnc34 := NB533_531.out
    obtain ⟨hcz35_0, hcz35_1, hfz35_0, hfz35_1⟩ := bz2 BK531
    have H := Hq_.out
    clear Hq_
    obtain ⟨t534, A8, H⟩ := ob H
    try dsimp only at H
    by_cases c9 : t534 = 1
    rw [if_pos c9] at H
    have c9b0 : (t534 == 1) = true := beq_iff_eq.mpr c9
    have c9b1 : (t534 != 1) = false := bne_eq_false_iff_eq.mpr c9
    clear c9
    obtain ⟨t535, A10, H⟩ := ob H
    try dsimp only at H
    by_cases c11 : t535 = 1
    rw [if_pos c11] at H
    have c11b0 : (t535 == 1) = true := beq_iff_eq.mpr c11
    have c11b1 : (t535 != 1) = false := bne_eq_false_iff_eq.mpr c11
    clear c11
    obtain ⟨t536, A12, H⟩ := ob H
    try dsimp only at H
    by_cases c13 : t536 = (wrap64 (2 + a0))
    rw [if_pos c13] at H
    have c13b0 : (t536 == (wrap64 (2 + a0))) = true := beq_iff_eq.mpr c13
    have c13b1 : (t536 != (wrap64 (2 + a0))) = false := bne_eq_false_iff_eq.mpr c13
    clear c13
    by_cases c14 : x3_1.length < 4398046511104
    rw [if_pos c14] at H
    have LMc14 := Aside0.mk c14
    clear c14
    obtain ⟨y537, hy537⟩ : ∃ y_ : List (S46), y_ = (x3_1 ++ [(⟨wrap64 ((wrap64 (Int.tdiv x10_1 27)) - 1), wrap64 ((Int.tmod (wrap64 (Int.tdiv x10_1 9)) 3) - 1), wrap64 ((Int.tmod (wrap64 (Int.tdiv x10_1 3)) 3) - 1), wrap64 ((Int.tmod x10_1 3) - 1)⟩ : S46)]) := ⟨_, rfl⟩
    replace H : (impl_pointMats.l0 k1 a0 y537 (wrap64 (x10_1 + 1))) = some r := by first | (rw [hy537]; with_reducible exact H) | (have H2_ := (Option.bind_some _ _).symm.trans H; rw [hy537]; with_reducible exact H2_) | (have H2_ := (Option.bind_some _ _).symm.trans H; with_reducible exact H2_) | with_reducible exact H | (rw [hy537]; exact H) | exact H
    have Ny537 := Aside0.mk hy537
    clear hy537
    have H' := Aside0.mk H
    clear H
    rotate_left
    ·rw [if_neg c14] at H
     exact absurd H (by simp)
    rw [if_neg c13] at H
    have c13b0 : (t536 == (wrap64 (2 + a0))) = false := beq_eq_false_iff_ne.mpr c13
    have c13b1 : (t536 != (wrap64 (2 + a0))) = true := bne_iff_ne.mpr c13
    have H' := Aside0.mk H
    clear H
    rotate_left
    rw [if_neg c11] at H
    have c11b0 : (t535 == 1) = false := beq_eq_false_iff_ne.mpr c11
    have c11b1 : (t535 != 1) = true := bne_iff_ne.mpr c11
    have H' := Aside0.mk H
    clear H
    rotate_left
    rw [if_neg c9] at H
    have c9b0 : (t534 == 1) = false := beq_eq_false_iff_ne.mpr c9
    have c9b1 : (t534 != 1) = true := bne_iff_ne.mpr c9
    have H' := Aside0.mk H
    clear H
    rotate_left
    try go_wp2_with (first | ((with_reducible refine gate_callee (f := 121) rfl ?_); refine gl 39 Tryz.func121 #[.int .i64 a0, .agg #[.int .i64 t525, .int .i64 t526]] ?_; (with_reducible refine (impl_norm.calls _ _ _ _ _ A8.out).mono ?_); rintro e w36 ⟨rfl, hb⟩; refine ⟨_, rfl, ?_⟩; replace HO_3 := asd (Kd.R_below (kr HO_3) hb); replace BK524 := bB BK524 hb; replace BK531 := bB BK531 hb; replace BK532 := bB BK532 hb; replace BK533 := bB BK533 hb; replace HB := bS4 HB GE524 GE531 GE532 GE533 hb; (try clear hb); have hnb37 := NB532_524.out; have hnc37 := NB524_532.out; have hnb38 := NB532_533.out; have hnc38 := NB533_532.out; obtain ⟨hcz39_0, hcz39_1, hfz39_0, hfz39_1⟩ := bz2 BK532) | (go_at_call 121; (with_reducible refine (impl_norm.calls _ _ _ _ _ A10.out).mono ?_); rintro e w40 ⟨rfl, hb⟩; replace HO_3 := asd (Kd.R_below (kr HO_3) hb); replace BK524 := bB BK524 hb; replace BK531 := bB BK531 hb; replace BK532 := bB BK532 hb; replace BK533 := bB BK533 hb; replace HB := bS4 HB GE524 GE531 GE532 GE533 hb; (try clear hb); have hnb41 := NB533_524.out; have hnc41 := NB524_533.out; obtain ⟨hcz42_0, hcz42_1, hfz42_0, hfz42_1⟩ := bz2 BK533) | (go_at_call 121; (with_reducible refine (impl_norm.calls _ _ _ _ _ A12.out).mono ?_); rintro e w43 ⟨rfl, hb⟩; replace HO_3 := asd (Kd.R_below (kr HO_3) hb); replace BK524 := bB BK524 hb; replace BK531 := bB BK531 hb; replace BK532 := bB BK532 hb; replace BK533 := bB BK533 hb; replace HB := bS4 HB GE524 GE531 GE532 GE533 hb; (try clear hb); obtain ⟨hcz44_0, hcz44_1, hcz44_2, hcz44_3, hfz44_0, hfz44_1, hfz44_2, hfz44_3⟩ := bz4 BK524) | ((with_reducible refine gate_builtin (b := .append) (xs := #[.tmp 55, .tmp 57]) rfl ?_); at_builtin; refine Kd.R_append k46 (w0 := w) w.heap.size rfl (.tmp 55) (.tmp 57) 90 46 (.agg #[(.int .i64 0), (.int .i64 0), (.int .i64 0), (.int .i64 0)]) 32 rfl Tryz.underlying90 info46 rfl (by decide) (by omega) u3 x3_1 (⟨wrap64 ((wrap64 (Int.tdiv x10_1 27)) - 1), wrap64 ((Int.tmod (wrap64 (Int.tdiv x10_1 9)) 3) - 1), wrap64 ((Int.tmod (wrap64 (Int.tdiv x10_1 3)) 3) - 1), wrap64 ((Int.tmod x10_1 3) - 1)⟩ : S46) [.int .i64 (wrap64 ((wrap64 (Int.tdiv x10_1 27)) - 1)), .int .i64 (wrap64 ((Int.tmod (wrap64 (Int.tdiv x10_1 9)) 3) - 1)), .int .i64 (wrap64 ((Int.tmod (wrap64 (Int.tdiv x10_1 3)) 3) - 1)), .int .i64 (wrap64 ((Int.tmod x10_1 3) - 1))] (fun k_ => k_ ≠ gb524) (fun _ => False) rfl rfl ?aP (fun _ hk => hk.elim) ?aF ?aO ?aB ?aS ?aL ?_; (case aP => exact k46_mkM _ _ _ (⟨wrap64 ((wrap64 (Int.tdiv x10_1 27)) - 1), wrap64 ((Int.tmod (wrap64 (Int.tdiv x10_1 9)) 3) - 1), wrap64 ((Int.tmod (wrap64 (Int.tdiv x10_1 3)) 3) - 1), wrap64 ((Int.tmod x10_1 3) - 1)⟩ : S46)); (case aB => exact (bbw4 HB GE524 GE531 GE532 GE533)); (case aF => exact (fun k_ hk => Kd.freshB (g := gb524) (o := .cells #[.int .i64 (wrap64 ((wrap64 (Int.tdiv x10_1 27)) - 1)), .int .i64 (wrap64 ((Int.tmod (wrap64 (Int.tdiv x10_1 9)) 3) - 1)), .int .i64 (wrap64 ((Int.tmod (wrap64 (Int.tdiv x10_1 3)) 3) - 1)), .int .i64 (wrap64 ((Int.tmod x10_1 3) - 1))] 46 (0, 0)) (bkp BK524) k_ hk)); (case aO => exact (kr HO_3)); (case aS => exact (bsz4 HB GE524 GE531 GE532 GE533)); (case aL => have := LMc14.out; omega); intro v538 w45 ho hb hg hat; rw [← Ny537.out] at ho; have n0_ := asd (blk_grown (g := gb524) (o := .cells #[.int .i64 (wrap64 ((wrap64 (Int.tdiv x10_1 27)) - 1)), .int .i64 (wrap64 ((Int.tmod (wrap64 (Int.tdiv x10_1 9)) 3) - 1)), .int .i64 (wrap64 ((Int.tmod (wrap64 (Int.tdiv x10_1 3)) 3) - 1)), .int .i64 (wrap64 ((Int.tmod x10_1 3) - 1))] 46 (0, 0)) (bkp BK524) hg (Kd.R_away HO_3.out (fun _ hk => hk))); have n1_ := asd (blk_grown (g := gb531) (o := .cells #[.int .i64 t525, .int .i64 t526] 38 (0, 0)) (bkp BK531) hg (Kd.R_ne HO_3.out BK531.out (by decide))); have n2_ := asd (blk_grown (g := gb532) (o := .cells #[.int .i64 t527, .int .i64 t528] 38 (0, 0)) (bkp BK532) hg (Kd.R_ne HO_3.out BK532.out (by decide))); have n3_ := asd (blk_grown (g := gb533) (o := .cells #[.int .i64 t529, .int .i64 t530] 38 (0, 0)) (bkp BK533) hg (Kd.R_ne HO_3.out BK533.out (by decide))); have n4_ := asd (hb); have n5_ := asd (ho); clear BK524; clear BK531; clear BK532; clear BK533; clear HB; clear HO_3; have BK524 := n0_; have BK531 := n1_; have BK532 := n2_; have BK533 := n3_; have HB := n4_; have HO539 := n5_; clear n0_ n1_ n2_ n3_ n4_ n5_; clear ho hb hg hat))
    rotate_left
    try go_wp2_with (first | ((with_reducible refine gate_callee (f := 121) rfl ?_); refine gl 39 Tryz.func121 #[.int .i64 a0, .agg #[.int .i64 t525, .int .i64 t526]] ?_; (with_reducible refine (impl_norm.calls _ _ _ _ _ A8.out).mono ?_); rintro e w67 ⟨rfl, hb⟩; refine ⟨_, rfl, ?_⟩; replace HO_3 := asd (Kd.R_below (kr HO_3) hb); replace BK524 := bB BK524 hb; replace BK531 := bB BK531 hb; replace BK532 := bB BK532 hb; replace BK533 := bB BK533 hb; replace HB := bS4 HB GE524 GE531 GE532 GE533 hb; (try clear hb); have hnb68 := NB532_524.out; have hnc68 := NB524_532.out; have hnb69 := NB532_533.out; have hnc69 := NB533_532.out; obtain ⟨hcz70_0, hcz70_1, hfz70_0, hfz70_1⟩ := bz2 BK532) | (go_at_call 121; (with_reducible refine (impl_norm.calls _ _ _ _ _ A10.out).mono ?_); rintro e w71 ⟨rfl, hb⟩; replace HO_3 := asd (Kd.R_below (kr HO_3) hb); replace BK524 := bB BK524 hb; replace BK531 := bB BK531 hb; replace BK532 := bB BK532 hb; replace BK533 := bB BK533 hb; replace HB := bS4 HB GE524 GE531 GE532 GE533 hb; (try clear hb); have hnb72 := NB533_524.out; have hnc72 := NB524_533.out; obtain ⟨hcz73_0, hcz73_1, hfz73_0, hfz73_1⟩ := bz2 BK533) | (go_at_call 121; (with_reducible refine (impl_norm.calls _ _ _ _ _ A12.out).mono ?_); rintro e w74 ⟨rfl, hb⟩; replace HO_3 := asd (Kd.R_below (kr HO_3) hb); replace BK524 := bB BK524 hb; replace BK531 := bB BK531 hb; replace BK532 := bB BK532 hb; replace BK533 := bB BK533 hb; replace HB := bS4 HB GE524 GE531 GE532 GE533 hb; (try clear hb)))
    rotate_left
    try go_wp2_with (first | ((with_reducible refine gate_callee (f := 121) rfl ?_); refine gl 39 Tryz.func121 #[.int .i64 a0, .agg #[.int .i64 t525, .int .i64 t526]] ?_; (with_reducible refine (impl_norm.calls _ _ _ _ _ A8.out).mono ?_); rintro e w96 ⟨rfl, hb⟩; refine ⟨_, rfl, ?_⟩; replace HO_3 := asd (Kd.R_below (kr HO_3) hb); replace BK524 := bB BK524 hb; replace BK531 := bB BK531 hb; replace BK532 := bB BK532 hb; replace BK533 := bB BK533 hb; replace HB := bS4 HB GE524 GE531 GE532 GE533 hb; (try clear hb); have hnb97 := NB532_524.out; have hnc97 := NB524_532.out; have hnb98 := NB532_533.out; have hnc98 := NB533_532.out; obtain ⟨hcz99_0, hcz99_1, hfz99_0, hfz99_1⟩ := bz2 BK532) | (go_at_call 121; (with_reducible refine (impl_norm.calls _ _ _ _ _ A10.out).mono ?_); rintro e w100 ⟨rfl, hb⟩; replace HO_3 := asd (Kd.R_below (kr HO_3) hb); replace BK524 := bB BK524 hb; replace BK531 := bB BK531 hb; replace BK532 := bB BK532 hb; replace BK533 := bB BK533 hb; replace HB := bS4 HB GE524 GE531 GE532 GE533 hb; (try clear hb)))
    rotate_left
    try go_wp2_with (first | ((with_reducible refine gate_callee (f := 121) rfl ?_); refine gl 39 Tryz.func121 #[.int .i64 a0, .agg #[.int .i64 t525, .int .i64 t526]] ?_; (with_reducible refine (impl_norm.calls _ _ _ _ _ A8.out).mono ?_); rintro e w122 ⟨rfl, hb⟩; refine ⟨_, rfl, ?_⟩; replace HO_3 := asd (Kd.R_below (kr HO_3) hb); replace BK524 := bB BK524 hb; replace BK531 := bB BK531 hb; replace BK532 := bB BK532 hb; replace BK533 := bB BK533 hb; replace HB := bS4 HB GE524 GE531 GE532 GE533 hb; (try clear hb)))
    rotate_left
    all_goals
     go_roundg k1
     case measure => have := HK1.out; omega
    ·case rel => exact ⟨(y537), (wrap64 (x10_1 + 1)), (by first | rfl | (simp; done) | (simp [*]; done)), H', ⟨by have := HK1.out; omega⟩, ⟨by (with_reducible repeat (first | apply Kd.R_alloc | apply Kd.R_drewN | apply Kd.R_drew)); exact Kd.R_mono HO539.out (fun _ hk => trivial)⟩, ⟨bbw4 HB GE524 GE531 GE532 GE533⟩⟩
    rotate_left 3
    all_goals
     case rel => exact ⟨(x3_1), (wrap64 (x10_1 + 1)), (by first | rfl | (simp; done) | (simp [*]; done)), H', ⟨by have := HK1.out; omega⟩, ⟨by (with_reducible repeat (first | apply Kd.R_alloc | apply Kd.R_drewN | apply Kd.R_drew)); exact Kd.R_mono HO_3.out (fun _ hk => trivial)⟩, ⟨bbw4 HB GE524 GE531 GE532 GE533⟩⟩
   ·rw [if_neg c4] at H
    have c4b0 := decide_eq_false c4
    clear c4
    obtain rfl := Option.some.inj H
    go_wp2
    go_ret
    exact ⟨_, by first | rfl | (simp [errW_none, errW_some] <;> rfl) | (simp [*, errW_none, errW_some] <;> rfl), by (with_reducible repeat (first | apply Kd.R_alloc | apply Kd.R_drewN | apply Kd.R_drew)); exact HO_3.out, bbw0 HB⟩
def impl_Lattice_has.f (a0_0 : Int) (a0_1 : Int) (a0_2 : Int) (a1_0 : Int) (a1_1 : Int) : Option (Bool) := (impl_Lattice_reduce.f a0_0 a0_1 a0_2 a1_0 a1_1).bind fun bt542 => (some (bt542.1 == 0 && (bt542.2 == 0)))
theorem impl_Lattice_has.calls (a0_0 : Int) (a0_1 : Int) (a0_2 : Int) (a1_0 : Int) (a1_1 : Int) (r : Bool) (w : World) (h : impl_Lattice_has.f a0_0 a0_1 a0_2 a1_0 a1_1 = some r) :
  Calls Tryz.prog 106 #[.agg #[.int .i64 a0_0, .int .i64 a0_1, .int .i64 a0_2], .agg #[.int .i64 a1_0, .int .i64 a1_1]] w fun e w' => e = .returned (.bool r) ∧ Below w.heap.size w w' := by
 have hu29 := Tryz.underlying29
 have hu38 := Tryz.underlying38
 have HB := asd (Below.refl w.heap.size w)
 have H : ((impl_Lattice_reduce.f a0_0 a0_1 a0_2 a1_0 a1_1).bind fun bt542 => (some (bt542.1 == 0 && (bt542.2 == 0)))) = some r := h
 clear h
 obtain ⟨⟨t542, t543⟩, A3, H⟩ := ob H
 try dsimp only at H
 obtain rfl := Option.some.inj H
 go_enter Tryz.func106, Tryz.ntmps106
 go_wp2_with (first | ((with_reducible refine gd 2 rfl ?_); refine bx #[.int .i64 a0_0, .int .i64 a0_1, .int .i64 a0_2] 29 ?_; intro gb540 hg w4 BK540 hb; have GE540 := ngw0 hg HB; replace HB := bS0 HB hb; clear hb hg) | ((with_reducible refine gd 3 rfl ?_); refine bx #[.int .i64 a1_0, .int .i64 a1_1] 38 ?_; intro gb541 hg w5 BK541 hb; have GE541 := ngw1 hg HB GE540; replace HB := bS1 HB GE540 hb; have NB540_541 := nlt hg BK540; have NB541_540 := nsy (nlt hg BK540); replace BK540 := bB BK540 hb; clear hb hg; have hnb6 := NB540_541.out; have hnc6 := NB541_540.out; obtain ⟨hcz7_0, hcz7_1, hcz7_2, hfz7_0, hfz7_1, hfz7_2⟩ := bz3 BK540; obtain ⟨hcz8_0, hcz8_1, hfz8_0, hfz8_1⟩ := bz2 BK541) | ((with_reducible refine gate_callee (f := 107) rfl ?_); refine gl 7 Tryz.func107 #[.agg #[.int .i64 a0_0, .int .i64 a0_1, .int .i64 a0_2], .agg #[.int .i64 a1_0, .int .i64 a1_1]] ?_; (with_reducible refine (impl_Lattice_reduce.calls _ _ _ _ _ _ _ _ A3.out).mono ?_); rintro e w9 ⟨rfl, hb⟩; refine ⟨_, rfl, ?_⟩; replace BK540 := bB BK540 hb; replace BK541 := bB BK541 hb; replace HB := bS2 HB GE540 GE541 hb; (try clear hb)))
 go_ret
 exact er (bbw2 HB GE540 GE541)
end Go.Proofs.YtdodghjnlekgeaaGreat.PA
