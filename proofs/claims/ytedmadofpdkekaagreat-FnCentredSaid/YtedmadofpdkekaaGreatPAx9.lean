/- Walks written by program: each Go function that the law reaches comes to the plain function beside it. -/
import Derived.Test.YtedmadofpdkekaaGreatPAx0
import Derived.Test.YtedmadofpdkekaaGreatPAx2
import Derived.Test.YtedmadofpdkekaaGreatPAx3
import Derived.Test.YtedmadofpdkekaaGreatPAx8
namespace Go.Proofs.YtedmadofpdkekaaGreat.PA
open Go.RowKit Go.Proofs.YtedmadofpdkekaaGreatW.PrintWords Go.Proofs.YtedmadofpdkekaaGreatW.PrintLast Go.Proofs.YtedmadofpdkekaaGreatW.PrintMore
attribute [local go_sem] max2_int min2_int max_two min_two max_three min_three max_four min_four   -- for this text's walks alone
set_option linter.unusedVariables false
set_option linter.unusedSimpArgs false

/-! ### impl_IsLattice: function 62 -/
def impl_IsLattice.f (a0_0 : Int) (a0_1 : Int) (a0_2 : Int) : Option (Bool) := (impl_within.f a0_0 1 64).bind fun t330 => (if t330 = true then ((impl_within.f a0_2 1 64).bind fun t331 => (if t331 = true then ((impl_within.f a0_1 0 (wrap64 (a0_0 - 1))).bind fun t332 => (if t332 = true then ((impl_Lattice_index.f a0_0 a0_1 a0_2).bind fun t333 => (some (decide (t333 ≤ 64)))) else (some false))) else (some false))) else (some false))
set_option maxHeartbeats 8000000 in
set_option maxRecDepth 100000 in
theorem impl_IsLattice.calls (a0_0 : Int) (a0_1 : Int) (a0_2 : Int) (r : Bool) (w : World) (h : impl_IsLattice.f a0_0 a0_1 a0_2 = some r) :
  Calls Tryz.prog 62 #[.agg #[.int .i64 a0_0, .int .i64 a0_1, .int .i64 a0_2]] w fun e w' => e = .returned (.bool r) ∧ Below w.heap.size w w' := by
 have hu25 := Tryz.underlying25
 have HB := asd (Below.refl w.heap.size w)
 have H : ((impl_within.f a0_0 1 64).bind fun t330 => (if t330 = true then ((impl_within.f a0_2 1 64).bind fun t331 => (if t331 = true then ((impl_within.f a0_1 0 (wrap64 (a0_0 - 1))).bind fun t332 => (if t332 = true then ((impl_Lattice_index.f a0_0 a0_1 a0_2).bind fun t333 => (some (decide (t333 ≤ 64)))) else (some false))) else (some false))) else (some false))) = some r := h
 clear h
 obtain ⟨t330, A2, H⟩ := ob H
 try dsimp only at H
 by_cases c3 : t330 = true
 subst c3
 replace H := ifT H
 obtain ⟨t331, A4, H⟩ := ob H
 try dsimp only at H
 by_cases c5 : t331 = true
 subst c5
 replace H := ifT H
 obtain ⟨t332, A6, H⟩ := ob H
 try dsimp only at H
 by_cases c7 : t332 = true
 subst c7
 replace H := ifT H
 obtain ⟨t333, A8, H⟩ := ob H
 try dsimp only at H
 obtain rfl := Option.some.inj H
 rotate_left
 replace c7 := Bool.eq_false_iff.mpr c7
 subst c7
 replace H := ifF H
 obtain rfl := Option.some.inj H
 rotate_left
 replace c5 := Bool.eq_false_iff.mpr c5
 subst c5
 replace H := ifF H
 obtain rfl := Option.some.inj H
 rotate_left
 replace c3 := Bool.eq_false_iff.mpr c3
 subst c3
 replace H := ifF H
 obtain rfl := Option.some.inj H
 rotate_left
 all_goals
  go_enter Tryz.func62, Tryz.ntmps62
  go_wp2_with (first | ((with_reducible refine gd 1 rfl ?_); refine bx #[.int .i64 a0_0, .int .i64 a0_1, .int .i64 a0_2] 25 ?_; intro gb329 hg w9 BK329 hb; have GE329 := ngw0 hg HB; replace HB := bS0 HB hb; clear hb hg; obtain ⟨hcz10_0, hcz10_1, hcz10_2, hfz10_0, hfz10_1, hfz10_2⟩ := bz3 BK329) | ((with_reducible refine gate_callee (f := 94) rfl ?_); refine gl 5 Tryz.func94 #[.int .i64 a0_0, .int .i64 1, .int .i64 64] ?_; (with_reducible refine (impl_within.calls _ _ _ _ _ A2.out).mono ?_); rintro e w' ⟨rfl, ⟨nd, rfl⟩⟩; refine ⟨_, rfl, ?_⟩) | (go_at_call 94; (with_reducible refine (impl_within.calls _ _ _ _ _ A4.out).mono ?_); rintro e w' ⟨rfl, ⟨nd, rfl⟩⟩) | (go_at_call 94; (with_reducible refine (impl_within.calls _ _ _ _ _ A6.out).mono ?_); rintro e w' ⟨rfl, ⟨nd, rfl⟩⟩) | (go_at_call 57; (with_reducible refine (impl_Lattice_index.calls _ _ _ _ _ A8.out).mono ?_); rintro e w11 ⟨rfl, hb⟩; replace BK329 := bB BK329 hb; replace HB := bS1 HB GE329 hb; (try clear hb)))
  go_ret
  exact er (bbw1 HB GE329)

attribute [local go_sem high] eqA27 eqA31
/-! ### impl_frameCode: function 29 -/
def impl_frameCode.f (a0 : Int) (a1_0 : Int) (a1_1 : Int) (a1_2 : Int) : Option (Int) := (impl_IsFrame.f a0).bind fun t335 => (if t335 = true then ((impl_IsLattice.f a1_0 a1_1 a1_2).bind fun t336 => (if t336 = true then (some 0) else (some 1))) else (some 1))
set_option maxHeartbeats 8000000 in
set_option maxRecDepth 100000 in
theorem impl_frameCode.calls (a0 : Int) (a1_0 : Int) (a1_1 : Int) (a1_2 : Int) (r : Int) (w : World) (h : impl_frameCode.f a0 a1_0 a1_1 a1_2 = some r) :
  Calls Tryz.prog 29 #[.int .i64 a0, .agg #[.int .i64 a1_0, .int .i64 a1_1, .int .i64 a1_2]] w fun e w' => e = .returned (.int .i64 r) ∧ Below w.heap.size w w' := by
 have hu25 := Tryz.underlying25
 have HB := asd (Below.refl w.heap.size w)
 have H : ((impl_IsFrame.f a0).bind fun t335 => (if t335 = true then ((impl_IsLattice.f a1_0 a1_1 a1_2).bind fun t336 => (if t336 = true then (some 0) else (some 1))) else (some 1))) = some r := h
 clear h
 obtain ⟨t335, A3, H⟩ := ob H
 try dsimp only at H
 by_cases c4 : t335 = true
 subst c4
 replace H := ifT H
 obtain ⟨t336, A5, H⟩ := ob H
 try dsimp only at H
 by_cases c6 : t336 = true
 subst c6
 replace H := ifT H
 obtain rfl := Option.some.inj H
 rotate_left
 replace c6 := Bool.eq_false_iff.mpr c6
 subst c6
 replace H := ifF H
 obtain rfl := Option.some.inj H
 rotate_left
 replace c4 := Bool.eq_false_iff.mpr c4
 subst c4
 replace H := ifF H
 obtain rfl := Option.some.inj H
 rotate_left
 all_goals
  go_enter Tryz.func29, Tryz.ntmps29
 rotate_left 2
 ·go_wp2_with (first | ((with_reducible refine gd 3 rfl ?_); refine bx #[.int .i64 a1_0, .int .i64 a1_1, .int .i64 a1_2] 25 ?_; intro gb334 hg w13 BK334 hb; have GE334 := ngw0 hg HB; replace HB := bS0 HB hb; clear hb hg) | ((with_reducible refine gate_callee (f := 61) rfl ?_); refine gl 6 Tryz.func61 #[.int .i64 a0] ?_; (with_reducible refine (impl_IsFrame.calls _ _ _ A3.out).mono ?_); rintro e w' ⟨rfl, ⟨nd, rfl⟩⟩; refine ⟨_, rfl, ?_⟩))
  go_ret
  exact er (bbw1 HB GE334)
 all_goals
  go_wp2_with (first | ((with_reducible refine gd 3 rfl ?_); refine bx #[.int .i64 a1_0, .int .i64 a1_1, .int .i64 a1_2] 25 ?_; intro gb334 hg w7 BK334 hb; have GE334 := ngw0 hg HB; replace HB := bS0 HB hb; clear hb hg) | ((with_reducible refine gate_callee (f := 61) rfl ?_); refine gl 6 Tryz.func61 #[.int .i64 a0] ?_; (with_reducible refine (impl_IsFrame.calls _ _ _ A3.out).mono ?_); rintro e w' ⟨rfl, ⟨nd, rfl⟩⟩; refine ⟨_, rfl, ?_⟩; have hcz8_0 : w7.cell? ⟨gb334, 0, none⟩ = some (.int .i64 a1_0) := bcl BK334 0; have hcz8_1 : w7.cell? ⟨gb334, 1, none⟩ = some (.int .i64 a1_1) := bcl BK334 1; have hcz8_2 : w7.cell? ⟨gb334, 2, none⟩ = some (.int .i64 a1_2) := bcl BK334 2; have hfz8_0 := blk_frozen BK334.out 0; have hfz8_1 := blk_frozen BK334.out 1; have hfz8_2 := blk_frozen BK334.out 2) | (go_at_call 62; (with_reducible refine (impl_IsLattice.calls _ _ _ _ _ A5.out).mono ?_); rintro e w9 ⟨rfl, hb⟩; replace BK334 := bB BK334 hb; replace HB := bS1 HB GE334 hb; (try clear hb)))
  go_ret
  exact er (bbw1 HB GE334)
/-! ### impl_Mat_83: function 83 -/
def impl_Mat_83.l0 : Nat → List (S27) → Int → Int → Int → Int → Int → Int → Option (Int)
 | 0, _, _, _, _, _, _, _ => none
 | k + 1, x0, x7, x8, x338000, x338001, x338002, x338003 => if x8 < x7 then (if 0 ≤ x8 then (if x8 < (x0.length : Int) then (if (x338000 == ((rd_T27 x0 x8).f0) && (x338001 == ((rd_T27 x0 x8).f1) && (x338002 == ((rd_T27 x0 x8).f2) && (x338003 == ((rd_T27 x0 x8).f3))))) = true then (some x8) else (impl_Mat_83.l0 k x0 x7 (wrap64 (x8 + 1)) x338000 x338001 x338002 x338003)) else (none)) else (none)) else (some (-1))
def impl_Mat_83.f (k : Nat) (l0 : List (S27)) (a1_0 : Int) (a1_1 : Int) (a1_2 : Int) (a1_3 : Int) : Option (Int) := impl_Mat_83.l0 k l0 (l0.length : Int) 0 a1_0 a1_1 a1_2 a1_3
set_option maxHeartbeats 8000000 in
set_option maxRecDepth 100000 in
theorem impl_Mat_83.calls (k : Nat) (A0 : Option Addr) (c0 : Nat) (l0 : List (S27)) (a1_0 : Int) (a1_1 : Int) (a1_2 : Int) (a1_3 : Int) (r : Int) (w : World) (hr0 : Kd.C k27 w A0 l0.length l0) (hc0 : l0.length ≤ c0) (h : impl_Mat_83.f k l0 a1_0 a1_1 a1_2 a1_3 = some r) :
  Calls Tryz.prog 83 #[.slice A0 l0.length c0, .agg #[.int .i64 a1_0, .int .i64 a1_1, .int .i64 a1_2, .int .i64 a1_3]] w fun e w' => e = .returned (.int .i64 r) ∧ Below w.heap.size w w' := by
 have hu27 := Tryz.underlying27
 have HR0 := Aside0.mk hr0
 have HC0 := Aside0.mk hc0
 clear hr0 hc0
 have HB := asd (Below.refl w.heap.size w)
 have H : (impl_Mat_83.l0 k l0 (l0.length : Int) 0 a1_0 a1_1 a1_2 a1_3) = some r := h
 clear h
 have H' := Aside0.mk H
 clear H
 go_enter Tryz.func83, Tryz.ntmps83
 go_wp2_with (first | ((with_reducible refine gd 3 rfl ?_); refine bx #[.int .i64 a1_0, .int .i64 a1_1, .int .i64 a1_2, .int .i64 a1_3] 27 ?_; intro gb337 hg w3 BK337 hb; have GE337 := ngw0 hg HB; replace HB := bS0 HB hb; clear hb hg))
 repeat (go_quiet (first | ((with_reducible refine gd 3 rfl ?_); refine bx #[.int .i64 a1_0, .int .i64 a1_1, .int .i64 a1_2, .int .i64 a1_3] 27 ?_; intro gb337 hg w3 BK337 hb; have GE337 := ngw0 hg HB; replace HB := bS0 HB hb; clear hb hg)); try go_wp2_with (first | ((with_reducible refine gd 3 rfl ?_); refine bx #[.int .i64 a1_0, .int .i64 a1_1, .int .i64 a1_2, .int .i64 a1_3] 27 ?_; intro gb337 hg w3 BK337 hb; have GE337 := ngw0 hg HB; replace HB := bS0 HB hb; clear hb hg)))
 go_loopg [8] k (fun kq v8 w' => ∃ (x8_1 : Int), v8 = .int .i64 x8_1 ∧ Aside0 (impl_Mat_83.l0 kq l0 (l0.length : Int) x8_1 a1_0 a1_1 a1_2 a1_3 = some r) ∧ Aside0 (kq ≤ k) ∧ Aside0 (w'.heap[gb337]? = some (.cells #[.int .i64 a1_0, .int .i64 a1_1, .int .i64 a1_2, .int .i64 a1_3] 27 (0, 0))) ∧ Aside0 (Below w.heap.size w w'))
 case atStart => exact ⟨(0), (by first | rfl | (simp; done) | (simp [*]; done)), H', ⟨Nat.le_refl _⟩, ⟨bkp BK337⟩, ⟨bbw1 HB GE337⟩⟩
 case round =>
  clear H'
  try clear p2
  obtain ⟨x8_1, rfl, HA, HK1, BK337, HB⟩ := hrel
  cases gk with
  | zero => exact absurd HA.out (by simp [impl_Mat_83.l0])
  | succ k1 =>
   have H := HA.out
   clear HA
   simp only [impl_Mat_83.l0] at H
   by_cases c4 : x8_1 < (l0.length : Int)
   rw [if_pos c4] at H
   have c4b0 := decide_eq_true c4
   clear c4
   by_cases c5 : 0 ≤ x8_1
   rw [if_pos c5] at H
   have c5b0 := decide_eq_true c5
   clear c5
   by_cases c6 : x8_1 < (l0.length : Int)
   rw [if_pos c6] at H
   have c6b0 := decide_eq_true c6
   clear c6
   by_cases c7 : (a1_0 == ((rd_T27 l0 x8_1).f0) && (a1_1 == ((rd_T27 l0 x8_1).f1) && (a1_2 == ((rd_T27 l0 x8_1).f2) && (a1_3 == ((rd_T27 l0 x8_1).f3))))) = true
   rw [if_pos c7] at H
   have c7b0 := c7
   (try (have c7b1 : decide (a1_0 = ((rd_T27 l0 x8_1).f0) && (a1_1 == ((rd_T27 l0 x8_1).f1) && (a1_2 == ((rd_T27 l0 x8_1).f2) && (a1_3 == ((rd_T27 l0 x8_1).f3))))) = true := by simpa using c7))
   (try (have c7b2 : (a1_0 == ((rd_T27 l0 x8_1).f0) && (a1_1 == ((rd_T27 l0 x8_1).f1) && (a1_2 == ((rd_T27 l0 x8_1).f2) && (a1_3 == ((rd_T27 l0 x8_1).f3))))) = true := by simpa using c7))
   clear c7
   obtain rfl := Option.some.inj H
   rotate_left
   rw [if_neg c7] at H
   have c7b0 : (a1_0 == ((rd_T27 l0 x8_1).f0) && (a1_1 == ((rd_T27 l0 x8_1).f1) && (a1_2 == ((rd_T27 l0 x8_1).f2) && (a1_3 == ((rd_T27 l0 x8_1).f3))))) = false := by simpa using c7
   (try (have c7b1 : decide (a1_0 = ((rd_T27 l0 x8_1).f0) && (a1_1 == ((rd_T27 l0 x8_1).f1) && (a1_2 == ((rd_T27 l0 x8_1).f2) && (a1_3 == ((rd_T27 l0 x8_1).f3))))) = false := by simpa using c7))
   (try (have c7b2 : (a1_0 == ((rd_T27 l0 x8_1).f0) && (a1_1 == ((rd_T27 l0 x8_1).f1) && (a1_2 == ((rd_T27 l0 x8_1).f2) && (a1_3 == ((rd_T27 l0 x8_1).f3))))) = false := by simpa using c7))
   (try (have c7b3 : ¬ (a1_0 = ((rd_T27 l0 x8_1).f0) && (a1_1 == ((rd_T27 l0 x8_1).f1) && (a1_2 == ((rd_T27 l0 x8_1).f2) && (a1_3 == ((rd_T27 l0 x8_1).f3))))) := by simpa using c7))
   clear c7
   have H' := Aside0.mk H
   clear H
   rotate_left
   ·rw [if_neg c6] at H
    exact absurd H (by simp)
   ·rw [if_neg c5] at H
    exact absurd H (by simp)
   rw [if_neg c4] at H
   have c4b0 := decide_eq_false c4
   clear c4
   obtain rfl := Option.some.inj H
   rotate_left
   rotate_left 2
   ·go_wp2
    repeat (go_quiet (fail); try go_wp2)
    go_ret
    exact er (bbw1 HB GE337)
   all_goals
    obtain ⟨hcz8_0, hcz8_1, hcz8_2, hcz8_3, hfz8_0, hfz8_1, hfz8_2, hfz8_3⟩ := bz4 BK337
    obtain ⟨p338, q338, ad338, e338, hx338_0, hx338_1, hx338_2, hx338_3⟩ := at_T27x HR0.out HB x8_1
    cases e338
    go_wp2
    repeat (go_quiet (fail); try go_wp2)
   ·go_ret
    exact er (bbw1 HB GE337)
   ·go_roundg k1
    case measure => have := HK1.out; omega
    case rel => exact ⟨(wrap64 (x8_1 + 1)), (by first | rfl | (simp; done) | (simp [*]; done)), H', ⟨by have := HK1.out; omega⟩, ⟨bkp BK337⟩, ⟨bbw1 HB GE337⟩⟩
/-! ### impl_Mat_47: function 47 -/
def impl_Mat_47.f (k : Nat) (l0 : List (S27)) (a1_0 : Int) (a1_1 : Int) (a1_2 : Int) (a1_3 : Int) : Option (Bool) := (impl_Mat_83.f k l0 a1_0 a1_1 a1_2 a1_3).bind fun t340 => (some (decide (t340 ≥ 0)))
set_option maxHeartbeats 8000000 in
set_option maxRecDepth 100000 in
theorem impl_Mat_47.calls (k : Nat) (A0 : Option Addr) (c0 : Nat) (l0 : List (S27)) (a1_0 : Int) (a1_1 : Int) (a1_2 : Int) (a1_3 : Int) (r : Bool) (w : World) (hr0 : Kd.C k27 w A0 l0.length l0) (hc0 : l0.length ≤ c0) (h : impl_Mat_47.f k l0 a1_0 a1_1 a1_2 a1_3 = some r) :
  Calls Tryz.prog 47 #[.slice A0 l0.length c0, .agg #[.int .i64 a1_0, .int .i64 a1_1, .int .i64 a1_2, .int .i64 a1_3]] w fun e w' => e = .returned (.bool r) ∧ Below w.heap.size w w' := by
 have hu27 := Tryz.underlying27
 have HR0 := Aside0.mk hr0
 have HC0 := Aside0.mk hc0
 clear hr0 hc0
 have HB := asd (Below.refl w.heap.size w)
 have H : ((impl_Mat_83.f k l0 a1_0 a1_1 a1_2 a1_3).bind fun t340 => (some (decide (t340 ≥ 0)))) = some r := h
 clear h
 obtain ⟨t340, A3, H⟩ := ob H
 try dsimp only at H
 obtain rfl := Option.some.inj H
 go_enter Tryz.func47, Tryz.ntmps47
 go_wp2_with (first | ((with_reducible refine gd 3 rfl ?_); refine bx #[.int .i64 a1_0, .int .i64 a1_1, .int .i64 a1_2, .int .i64 a1_3] 27 ?_; intro gb339 hg w4 BK339 hb; have GE339 := ngw0 hg HB; replace HB := bS0 HB hb; clear hb hg; obtain ⟨hcz5_0, hcz5_1, hcz5_2, hcz5_3, hfz5_0, hfz5_1, hfz5_2, hfz5_3⟩ := bz4 BK339) | ((with_reducible refine gate_callee (f := 83) rfl ?_); refine gl 7 Tryz.func83 #[.slice A0 l0.length c0, .agg #[.int .i64 a1_0, .int .i64 a1_1, .int .i64 a1_2, .int .i64 a1_3]] ?_; (with_reducible refine (impl_Mat_83.calls _ _ _ _ _ _ _ _ _ _ ?side1 ?side2 A3.out).mono ?_); (case side1 => exact ks (Kd.C_below HR0.out HB.out)); (case side2 => exact HC0.out); rintro e w6 ⟨rfl, hb⟩; refine ⟨_, rfl, ?_⟩; replace BK339 := bB BK339 hb; replace HB := bS1 HB GE339 hb; (try clear hb)))
 go_ret
 exact er (bbw1 HB GE339)
/-! ### impl_mod: function 102 -/
def impl_mod.f (a0 : Int) (a1 : Int) : Option (Int) := if a1 = 0 then (none) else (some (Int.tmod (wrap64 ((Int.tmod a0 a1) + a1)) a1))
set_option maxHeartbeats 8000000 in
set_option maxRecDepth 100000 in
theorem impl_mod.calls (a0 : Int) (a1 : Int) (r : Int) (w : World) (h : impl_mod.f a0 a1 = some r) :
  Calls Tryz.prog 102 #[.int .i64 a0, .int .i64 a1] w fun e w' => e = .returned (.int .i64 r) ∧ Drawn0 w w' := by
 have H : (if a1 = 0 then (none) else (some (Int.tmod (wrap64 ((Int.tmod a0 a1) + a1)) a1))) = some r := h
 clear h
 by_cases c3 : a1 = 0
 ·rw [if_pos c3] at H
  exact absurd H (by simp)
 ·rw [if_neg c3] at H
  have c3b0 : (a1 == 0) = false := beq_eq_false_iff_ne.mpr c3
  have c3b1 : (a1 != 0) = true := bne_iff_ne.mpr c3
  obtain rfl := Option.some.inj H
  go_enter Tryz.func102, Tryz.ntmps102
  go_wp2
  go_ret
  exact ⟨by first | rfl | (simp; done) | (simp [*]; done), by repeat (first | exact Drawn0.refl _ | apply Drawn0.step)⟩
/-! ### impl_Lattice_reduce: function 72 -/
def impl_Lattice_reduce.f (a0_0 : Int) (a0_1 : Int) (a0_2 : Int) (a1_0 : Int) (a1_1 : Int) : Option (Int × Int) := (impl_mod.f a1_1 a0_2).bind fun t344 => (if a0_2 = 0 then (none) else ((impl_mod.f (wrap64 (a1_0 - (wrap64 ((wrap64 (Int.tdiv (wrap64 (a1_1 - t344)) a0_2)) * a0_1)))) a0_0).bind fun t345 => (some (t345, t344))))
def impl_Lattice_reduce.T2 : Bool × List (List Nat × List Nat) := (true, [([], []), ([0], [0]), ([], []), ([2], [2]), ([], []), ([3, 4], [3, 4]), ([], []), ([6], [6]), ([5, 7], [5, 7]), ([], []), ([9], [9]), ([8, 10], [8, 10]), ([1, 11], [1, 11]), ([], []), ([13], [13]), ([12, 14], [12, 14]), ([], []), ([15, 16], [15, 16]), ([17, 15, 0, 1, 2, 3, 4, 5, 6, 7, 8, 9, 10, 11, 12, 13, 14, 15, 16, 17], [17])])
def impl_Lattice_reduce.B2 : List Nat := [0, 1, 0, 4, 0, 28, 0, 64, 252, 0, 512, 2044, 4095, 0, 8192, 32767, 0, 131071, 262143]
theorem impl_Lattice_reduce.tab2 : rtab .any (opsOf Tryz.f72 2) = impl_Lattice_reduce.T2 := by kernel_rfl
theorem impl_Lattice_reduce.bits2 : waitsOk impl_Lattice_reduce.T2.2 impl_Lattice_reduce.B2 = true := by kernel_rfl
set_option maxHeartbeats 8000000 in
set_option maxRecDepth 100000 in
theorem impl_Lattice_reduce.calls (a0_0 : Int) (a0_1 : Int) (a0_2 : Int) (a1_0 : Int) (a1_1 : Int) (r1 : Int) (r2 : Int) (w : World) (h : impl_Lattice_reduce.f a0_0 a0_1 a0_2 a1_0 a1_1 = some (r1, r2)) :
  Calls Tryz.prog 72 #[.agg #[.int .i64 a0_0, .int .i64 a0_1, .int .i64 a0_2], .agg #[.int .i64 a1_0, .int .i64 a1_1]] w fun e w' => e = .returned (.agg #[.int .i64 r1, .int .i64 r2]) ∧ Below w.heap.size w w' := by
 have hu25 := Tryz.underlying25
 have hu31 := Tryz.underlying31
 have HB := asd (Below.refl w.heap.size w)
 have H : ((impl_mod.f a1_1 a0_2).bind fun t344 => (if a0_2 = 0 then (none) else ((impl_mod.f (wrap64 (a1_0 - (wrap64 ((wrap64 (Int.tdiv (wrap64 (a1_1 - t344)) a0_2)) * a0_1)))) a0_0).bind fun t345 => (some (t345, t344))))) = some (r1, r2) := h
 clear h
 obtain ⟨t344, A3, H⟩ := ob H
 try dsimp only at H
 by_cases c4 : a0_2 = 0
 ·rw [if_pos c4] at H
  exact absurd H (by simp)
 ·rw [if_neg c4] at H
  have c4b0 : (a0_2 == 0) = false := beq_eq_false_iff_ne.mpr c4
  have c4b1 : (a0_2 != 0) = true := bne_iff_ne.mpr c4
  obtain ⟨t345, A5, H⟩ := ob H
  try dsimp only at H
  simp only [Option.some.injEq, Prod.mk.injEq] at H
  obtain ⟨rfl, rfl⟩ := H
  go_enter Tryz.func72, Tryz.ntmps72
  try go_wp2_with (first | ((with_reducible refine gd 2 rfl ?_); refine bx #[.int .i64 a0_0, .int .i64 a0_1, .int .i64 a0_2] 25 ?_; intro gb341 hg w6 BK341 hb; have GE341 := ngw0 hg HB; replace HB := bS0 HB hb; clear hb hg) | ((with_reducible refine gd 3 rfl ?_); refine bx #[.int .i64 a1_0, .int .i64 a1_1] 31 ?_; intro gb342 hg w7 BK342 hb; have GE342 := ngw1 hg HB GE341; replace HB := bS1 HB GE341 hb; have NB341_342 := nlt hg BK341; have NB342_341 := nsy (nlt hg BK341); replace BK341 := bB BK341 hb; clear hb hg) | ((with_reducible refine gd 4 rfl ?_); refine bx #[.int .i64 0, .int .i64 0] 31 ?_; intro gb343 hg w8 BK343 hb; have GE343 := ngw2 hg HB GE341 GE342; replace HB := bS2 HB GE341 GE342 hb; have NB341_343 := nlt hg BK341; have NB343_341 := nsy (nlt hg BK341); replace BK341 := bB BK341 hb; have NB342_343 := nlt hg BK342; have NB343_342 := nsy (nlt hg BK342); replace BK342 := bB BK342 hb; clear hb hg; have hnb9 := NB342_341.out; have hnc9 := NB341_342.out; have hnb10 := NB342_343.out; have hnc10 := NB343_342.out; obtain ⟨hcz11_0, hcz11_1, hfz11_0, hfz11_1⟩ := bz2 BK342; have hnb12 := NB341_343.out; have hnc12 := NB343_341.out; obtain ⟨hcz13_0, hcz13_1, hcz13_2, hfz13_0, hfz13_1, hfz13_2⟩ := bz3 BK341) | ((with_reducible refine gate_callee (f := 102) rfl ?_); refine gl 10 Tryz.func102 #[.int .i64 a1_1, .int .i64 a0_2] ?_; (with_reducible refine (impl_mod.calls _ _ _ _ A3.out).mono ?_); rintro e w' ⟨rfl, ⟨nd, rfl⟩⟩; refine ⟨_, rfl, ?_⟩; (try (rw [drewN_self w8]; generalize hq_ : World.drewN w8 _ = w8; have n0_ : Aside0 (w8.heap[gb341]? = some (.cells #[.int .i64 a0_0, .int .i64 a0_1, .int .i64 a0_2] 25 (0, 0))) := ⟨by rw [← hq_]; exact (bkp BK341)⟩; have n1_ : Aside0 (w8.heap[gb342]? = some (.cells #[.int .i64 a1_0, .int .i64 a1_1] 31 (0, 0))) := ⟨by rw [← hq_]; exact (bkp BK342)⟩; have n2_ : Aside0 (w8.heap[gb343]? = some (.cells #[.int .i64 0, .int .i64 0] 31 (0, 0))) := ⟨by rw [← hq_]; exact (bkp BK343)⟩; have n3_ : Aside0 (Below w.heap.size w w8) := ⟨by rw [← hq_]; exact (bbw3 HB GE341 GE342 GE343)⟩; clear BK341 BK342 BK343 HB hq_; have BK341 := n0_; have BK342 := n1_; have BK343 := n2_; have HB := n3_; clear n0_ n1_ n2_ n3_))))
  replace BK341 := asd (blk_drew BK341.out)
  replace BK342 := asd (blk_drew BK342.out)
  replace BK343 := asd (blk_drew BK343.out)
  replace HB := asd (below_drew1 HB.out)
  refine sh 19 (cb2 BK342 (eb3 BK341)) (fun hHeld => ?_); refine with_tabW impl_Lattice_reduce.tab2 impl_Lattice_reduce.bits2 (fun HT_ HW_ => ?_)
  generalize w8.drew = w14 at BK341 BK342 BK343 HB hHeld ⊢
  refine pu 0 (some 11) (bT 19 1) HT_ ?_
  refine pu 2 (some 13) (bs 19 5) HT_ ?_
  refine pu 4 (some 15) (bs 19 21) HT_ ?_
  refine pu 6 (some 17) (bs 19 85) HT_ ?_
  refine pu 9 (some 20) (bs 19 597) HT_ ?_
  refine pu 13 (some 24) (bs 19 8789) HT_ ?_
  refine pu 16 (some 27) (bs 19 74325) HT_ ?_
  refine ta 1 (some 12) (bs 19 74327) HT_ HW_ hHeld ?_
  refine ta 3 (some 14) (bs 19 74335) HT_ HW_ hHeld ?_
  refine pu 5 (some 16) (bs 19 74367) HT_ ?_
  refine ta 7 (some 18) (bs 19 74495) HT_ HW_ hHeld ?_
  refine pu 8 (some 19) (bs 19 74751) HT_ ?_
  refine ta 10 (some 21) (bs 19 75775) HT_ HW_ hHeld ?_
  refine pu 11 (some 22) (bs 19 77823) HT_ ?_
  refine pu 12 (some 23) (bs 19 81919) HT_ ?_
  refine ta 14 (some 25) (bs 19 98303) HT_ HW_ hHeld ?_
  refine ro 15 (some 26) (bT 19 17) HT_ (fun K hK => ?_)
  refine gs Tryz.func102 #[.int .i64 (wrap64 (a1_0 - (wrap64 ((wrap64 (Int.tdiv (wrap64 (a1_1 - t344)) a0_2)) * a0_1)))), .int .i64 a0_0] ?_
  with_reducible refine (impl_mod.calls _ _ _ _ A5.out).mono ?_
  rintro e w' ⟨rfl, ⟨nd, rfl⟩⟩
  refine ⟨_, rfl, ?_⟩
  refine hK.out _ _ (cb2 BK342 (eb3 BK341)).out (fun hHeld => ?_)
  clear hK K
  refine norm_ (a' := ?_) ?_ ?_
  rotate_left
  ·show Act.put _ (some 26) _ = _
   simp only [Act.put, sA, sB, sC, i64_w, i32_w]
   rfl
  refine pu 17 (some 28) (bT 19 18) HT_ ?_
  refine ro 18 (none) (bT 19 19) HT_ (fun K hK => ?_)
  have hs15 : w14.cell? ⟨gb343, 0, none⟩ = some (.int .i64 0) := bcl BK343 0
  have hfs15 := blk_frozen BK343.out 0
  have hns15_0 := NB341_343.out
  have hns15_1 := NB342_343.out
  have hms15_0 := NB343_341.out
  have hms15_1 := NB343_342.out
  have hs16 : w14.cell? ⟨gb343, 1, none⟩ = some (.int .i64 0) := bcl BK343 1
  have hfs16 := blk_frozen BK343.out 1
  have hns16_0 := NB341_343.out
  have hns16_1 := NB342_343.out
  have hms16_0 := NB343_341.out
  have hms16_1 := NB343_342.out
  refine skip_ (w1 := ?_) (by rfl) rfl ?_ ?_
  rotate_left
  ·go_simp
   rfl
  refine hK.out _ _ ⟨(cf2 NB342_343 (hHeld.1)), (cf2 NB342_343 (hHeld.2.1)), (cf2 NB341_343 (hHeld.2.2.1)), (cf2 NB341_343 (hHeld.2.2.2.1)), (cf2 NB341_343 (hHeld.2.2.2.2))⟩ (fun hHeld => ?_)
  clear hK K
  refine done_ (done_of HT_.out (by kernel_rfl)) ?_
  try go_wp2
  refine bodyPost_ret (results_cell_row rfl _ _ gb343 31 #[.int .i64 t345, .int .i64 t344] (0, 0) _ rfl (bq0 BK343) Tryz.underlying31 rfl (by kernel_rfl)) rfl ?_
  exact er (bbw3 HB GE341 GE342 GE343)
/-! ### impl_Lattice_has: function 39 -/
def impl_Lattice_has.f (a0_0 : Int) (a0_1 : Int) (a0_2 : Int) (a1_0 : Int) (a1_1 : Int) : Option (Bool) := (impl_Lattice_reduce.f a0_0 a0_1 a0_2 a1_0 a1_1).bind fun bt348 => (some (bt348.1 == 0 && (bt348.2 == 0)))
set_option maxHeartbeats 8000000 in
set_option maxRecDepth 100000 in
theorem impl_Lattice_has.calls (a0_0 : Int) (a0_1 : Int) (a0_2 : Int) (a1_0 : Int) (a1_1 : Int) (r : Bool) (w : World) (h : impl_Lattice_has.f a0_0 a0_1 a0_2 a1_0 a1_1 = some r) :
  Calls Tryz.prog 39 #[.agg #[.int .i64 a0_0, .int .i64 a0_1, .int .i64 a0_2], .agg #[.int .i64 a1_0, .int .i64 a1_1]] w fun e w' => e = .returned (.bool r) ∧ Below w.heap.size w w' := by
 have hu25 := Tryz.underlying25
 have hu31 := Tryz.underlying31
 have HB := asd (Below.refl w.heap.size w)
 have H : ((impl_Lattice_reduce.f a0_0 a0_1 a0_2 a1_0 a1_1).bind fun bt348 => (some (bt348.1 == 0 && (bt348.2 == 0)))) = some r := h
 clear h
 obtain ⟨⟨t348, t349⟩, A3, H⟩ := ob H
 try dsimp only at H
 obtain rfl := Option.some.inj H
 go_enter Tryz.func39, Tryz.ntmps39
 go_wp2_with (first | ((with_reducible refine gd 2 rfl ?_); refine bx #[.int .i64 a0_0, .int .i64 a0_1, .int .i64 a0_2] 25 ?_; intro gb346 hg w4 BK346 hb; have GE346 := ngw0 hg HB; replace HB := bS0 HB hb; clear hb hg) | ((with_reducible refine gd 3 rfl ?_); refine bx #[.int .i64 a1_0, .int .i64 a1_1] 31 ?_; intro gb347 hg w5 BK347 hb; have GE347 := ngw1 hg HB GE346; replace HB := bS1 HB GE346 hb; have NB346_347 := nlt hg BK346; have NB347_346 := nsy (nlt hg BK346); replace BK346 := bB BK346 hb; clear hb hg; have hnb6 := NB346_347.out; have hnc6 := NB347_346.out; obtain ⟨hcz7_0, hcz7_1, hcz7_2, hfz7_0, hfz7_1, hfz7_2⟩ := bz3 BK346; obtain ⟨hcz8_0, hcz8_1, hfz8_0, hfz8_1⟩ := bz2 BK347) | ((with_reducible refine gate_callee (f := 72) rfl ?_); refine gl 7 Tryz.func72 #[.agg #[.int .i64 a0_0, .int .i64 a0_1, .int .i64 a0_2], .agg #[.int .i64 a1_0, .int .i64 a1_1]] ?_; (with_reducible refine (impl_Lattice_reduce.calls _ _ _ _ _ _ _ _ A3.out).mono ?_); rintro e w9 ⟨rfl, hb⟩; refine ⟨_, rfl, ?_⟩; replace BK346 := bB BK346 hb; replace BK347 := bB BK347 hb; replace HB := bS2 HB GE346 GE347 hb; (try clear hb)))
 go_ret
 exact er (bbw2 HB GE346 GE347)
/-! ### impl_Mat_apply: function 43 -/
def impl_Mat_apply.f (a0_0 : Int) (a0_1 : Int) (a0_2 : Int) (a0_3 : Int) (a1_0 : Int) (a1_1 : Int) : Option (Int × Int) := some (wrap64 ((wrap64 (a0_0 * a1_0)) + (wrap64 (a0_1 * a1_1))), wrap64 ((wrap64 (a0_2 * a1_0)) + (wrap64 (a0_3 * a1_1))))
set_option maxHeartbeats 8000000 in
set_option maxRecDepth 100000 in
theorem impl_Mat_apply.calls (a0_0 : Int) (a0_1 : Int) (a0_2 : Int) (a0_3 : Int) (a1_0 : Int) (a1_1 : Int) (r1 : Int) (r2 : Int) (w : World) (h : impl_Mat_apply.f a0_0 a0_1 a0_2 a0_3 a1_0 a1_1 = some (r1, r2)) :
  Calls Tryz.prog 43 #[.agg #[.int .i64 a0_0, .int .i64 a0_1, .int .i64 a0_2, .int .i64 a0_3], .agg #[.int .i64 a1_0, .int .i64 a1_1]] w fun e w' => e = .returned (.agg #[.int .i64 r1, .int .i64 r2]) ∧ Below w.heap.size w w' := by
 have hu27 := Tryz.underlying27
 have hu31 := Tryz.underlying31
 have HB := asd (Below.refl w.heap.size w)
 have H : (some (wrap64 ((wrap64 (a0_0 * a1_0)) + (wrap64 (a0_1 * a1_1))), wrap64 ((wrap64 (a0_2 * a1_0)) + (wrap64 (a0_3 * a1_1))))) = some (r1, r2) := h
 clear h
 simp only [Option.some.injEq, Prod.mk.injEq] at H
 obtain ⟨rfl, rfl⟩ := H
 go_enter Tryz.func43, Tryz.ntmps43
 go_wp2_with (first | ((with_reducible refine gd 2 rfl ?_); refine bx #[.int .i64 a0_0, .int .i64 a0_1, .int .i64 a0_2, .int .i64 a0_3] 27 ?_; intro gb350 hg w3 BK350 hb; have GE350 := ngw0 hg HB; replace HB := bS0 HB hb; clear hb hg) | ((with_reducible refine gd 3 rfl ?_); refine bx #[.int .i64 a1_0, .int .i64 a1_1] 31 ?_; intro gb351 hg w4 BK351 hb; have GE351 := ngw1 hg HB GE350; replace HB := bS1 HB GE350 hb; have NB350_351 := nlt hg BK350; have NB351_350 := nsy (nlt hg BK350); replace BK350 := bB BK350 hb; clear hb hg) | ((with_reducible refine gd 4 rfl ?_); refine bx #[.int .i64 0, .int .i64 0] 31 ?_; intro gb352 hg w5 BK352 hb; have GE352 := ngw2 hg HB GE350 GE351; replace HB := bS2 HB GE350 GE351 hb; have NB350_352 := nlt hg BK350; have NB352_350 := nsy (nlt hg BK350); replace BK350 := bB BK350 hb; have NB351_352 := nlt hg BK351; have NB352_351 := nsy (nlt hg BK351); replace BK351 := bB BK351 hb; clear hb hg; have hnb6 := NB350_351.out; have hnc6 := NB351_350.out; have hnb7 := NB350_352.out; have hnc7 := NB352_350.out; obtain ⟨hcz8_0, hcz8_1, hcz8_2, hcz8_3, hfz8_0, hfz8_1, hfz8_2, hfz8_3⟩ := bz4 BK350; have hnb9 := NB351_352.out; have hnc9 := NB352_351.out; obtain ⟨hcz10_0, hcz10_1, hfz10_0, hfz10_1⟩ := bz2 BK351; obtain ⟨hcz11_0, hcz11_1, hfz11_0, hfz11_1⟩ := bz2 BK352))
 refine bodyPost_ret (results_cell_row rfl _ _ gb352 31 #[.int .i64 (wrap64 ((wrap64 (a0_0 * a1_0)) + (wrap64 (a0_1 * a1_1)))), .int .i64 (wrap64 ((wrap64 (a0_2 * a1_0)) + (wrap64 (a0_3 * a1_1))))] (0, 0) _ rfl (bq0 BK352) Tryz.underlying31 rfl (by kernel_rfl)) rfl ?_
 exact er (bbw3 HB GE350 GE351 GE352)
/-! ### impl_Lattice_basis: function 63 -/
def impl_Lattice_basis.f (a0_0 : Int) (a0_1 : Int) (a0_2 : Int) : Option (Int × Int × Int × Int) := some (a0_0, 0, a0_1, a0_2)
def impl_Lattice_basis.T1 : Bool × List (List Nat × List Nat) := (true, [([], []), ([0], [0]), ([1], [1]), ([], []), ([3], [3]), ([], []), ([5], [5]), ([4, 6], [4, 6]), ([2, 0, 1, 2], [2]), ([7, 8, 0, 1, 2, 3, 4, 5, 6, 7, 8], [7])])
def impl_Lattice_basis.B1 : List Nat := [0, 1, 3, 0, 8, 0, 32, 120, 7, 511]
theorem impl_Lattice_basis.tab1 : rtab .any (opsOf Tryz.f63 1) = impl_Lattice_basis.T1 := by kernel_rfl
theorem impl_Lattice_basis.bits1 : waitsOk impl_Lattice_basis.T1.2 impl_Lattice_basis.B1 = true := by kernel_rfl
set_option maxHeartbeats 8000000 in
set_option maxRecDepth 100000 in
theorem impl_Lattice_basis.calls (a0_0 : Int) (a0_1 : Int) (a0_2 : Int) (r1 : Int) (r2 : Int) (r3 : Int) (r4 : Int) (w : World) (h : impl_Lattice_basis.f a0_0 a0_1 a0_2 = some (r1, r2, r3, r4)) :
  Calls Tryz.prog 63 #[.agg #[.int .i64 a0_0, .int .i64 a0_1, .int .i64 a0_2]] w fun e w' => e = .returned (.tuple #[.agg #[.int .i64 r1, .int .i64 r2], .agg #[.int .i64 r3, .int .i64 r4]]) ∧ Below w.heap.size w w' := by
 have hu25 := Tryz.underlying25
 have hu31 := Tryz.underlying31
 have HB := asd (Below.refl w.heap.size w)
 have H : (some (a0_0, 0, a0_1, a0_2)) = some (r1, r2, r3, r4) := h
 clear h
 simp only [Option.some.injEq, Prod.mk.injEq] at H
 obtain ⟨rfl, rfl, rfl, rfl⟩ := H
 go_enter Tryz.func63, Tryz.ntmps63
 try go_wp2_with (first | ((with_reducible refine gd 1 rfl ?_); refine bx #[.int .i64 a0_0, .int .i64 a0_1, .int .i64 a0_2] 25 ?_; intro gb353 hg w2 BK353 hb; have GE353 := ngw0 hg HB; replace HB := bS0 HB hb; clear hb hg) | ((with_reducible refine gd 2 rfl ?_); refine bx #[.int .i64 0, .int .i64 0] 31 ?_; intro gb354 hg w3 BK354 hb; have GE354 := ngw1 hg HB GE353; replace HB := bS1 HB GE353 hb; have NB353_354 := nlt hg BK353; have NB354_353 := nsy (nlt hg BK353); replace BK353 := bB BK353 hb; clear hb hg) | ((with_reducible refine gd 3 rfl ?_); refine bx #[.int .i64 0, .int .i64 0] 31 ?_; intro gb355 hg w4 BK355 hb; have GE355 := ngw2 hg HB GE353 GE354; replace HB := bS2 HB GE353 GE354 hb; have NB353_355 := nlt hg BK353; have NB355_353 := nsy (nlt hg BK353); replace BK353 := bB BK353 hb; have NB354_355 := nlt hg BK354; have NB355_354 := nsy (nlt hg BK354); replace BK354 := bB BK354 hb; clear hb hg))
 replace BK353 := asd (blk_drew BK353.out)
 replace BK354 := asd (blk_drew BK354.out)
 replace BK355 := asd (blk_drew BK355.out)
 replace HB := asd (below_drew1 HB.out)
 refine sh 10 (eb3 BK353) (fun hHeld => ?_); refine with_tabW impl_Lattice_basis.tab1 impl_Lattice_basis.bits1 (fun HT_ HW_ => ?_)
 generalize w4.drew = w5 at BK353 BK354 BK355 HB hHeld ⊢
 refine pu 0 (some 4) (bT 10 1) HT_ ?_
 refine pu 3 (some 7) (bs 10 9) HT_ ?_
 refine pu 5 (some 9) (bs 10 41) HT_ ?_
 refine ta 1 (some 5) (bs 10 43) HT_ HW_ hHeld ?_
 refine pu 2 (some 6) (bs 10 47) HT_ ?_
 refine ta 4 (some 8) (bT 10 6) HT_ HW_ hHeld ?_
 refine ta 6 (some 10) (bT 10 7) HT_ HW_ hHeld ?_
 refine pu 7 (some 11) (bT 10 8) HT_ ?_
 refine ro 8 (none) (bT 10 9) HT_ (fun K hK => ?_)
 have hs6 : w5.cell? ⟨gb354, 0, none⟩ = some (.int .i64 0) := bcl BK354 0
 have hfs6 := blk_frozen BK354.out 0
 have hns6_0 := NB353_354.out
 have hns6_2 := NB355_354.out
 have hms6_0 := NB354_353.out
 have hms6_2 := NB354_355.out
 have hs7 : w5.cell? ⟨gb354, 1, none⟩ = some (.int .i64 0) := bcl BK354 1
 have hfs7 := blk_frozen BK354.out 1
 have hns7_0 := NB353_354.out
 have hns7_2 := NB355_354.out
 have hms7_0 := NB354_353.out
 have hms7_2 := NB354_355.out
 refine skip_ (w1 := ?_) (by rfl) rfl ?_ ?_
 rotate_left
 ·go_simp
  rfl
 refine hK.out _ _ ⟨(cf2 NB353_354 (hHeld.1)), (cf2 NB353_354 (hHeld.2.1)), (cf2 NB353_354 (hHeld.2.2))⟩ (fun hHeld => ?_)
 clear hK K
 refine ro 9 (none) (bT 10 10) HT_ (fun K hK => ?_)
 have hs8 : w5.cell? ⟨gb355, 0, none⟩ = some (.int .i64 0) := bcl BK355 0
 have hfs8 := blk_frozen BK355.out 0
 have hns8_0 := NB353_355.out
 have hns8_1 := NB354_355.out
 have hms8_0 := NB355_353.out
 have hms8_1 := NB355_354.out
 have hs9 : w5.cell? ⟨gb355, 1, none⟩ = some (.int .i64 0) := bcl BK355 1
 have hfs9 := blk_frozen BK355.out 1
 have hns9_0 := NB353_355.out
 have hns9_1 := NB354_355.out
 have hms9_0 := NB355_353.out
 have hms9_1 := NB355_354.out
 refine skip_ (w1 := ?_) (by rfl) rfl ?_ ?_
 rotate_left
 ·go_simp
  rfl
 refine hK.out _ _ ⟨(cf2 NB353_355 (hHeld.1)), (cf2 NB353_355 (hHeld.2.1)), (cf2 NB353_355 (hHeld.2.2))⟩ (fun hHeld => ?_)
 clear hK K
 refine done_ (done_of HT_.out (by kernel_rfl)) ?_
 try go_wp2
 refine bodyPost_ret (results_cc rfl _ _ gb354 gb355 31 31 #[.int .i64 a0_0, .int .i64 0] #[.int .i64 a0_1, .int .i64 a0_2] (0, 0) (0, 0) _ _ rfl (bq1 BK354 NB354_355) Tryz.underlying31 rfl (by kernel_rfl) rfl (bq1 BK355 NB355_354) Tryz.underlying31 rfl (by kernel_rfl)) rfl ?_
 exact er (bbw3 HB GE353 GE354 GE355)
/-! ### impl_Mat_106: function 106 -/
/-- The first index at which p holds, or -1. -/
def impl_Mat_106.f (p : S27 → Bool) (l : List S27) : Int := match l.findIdx? p with | some i => i | none => -1
theorem impl_Mat_106.rd_get (l : List S27) (j : Nat) (h : j < l.length) : rd_T27 l (j : Int) = l[j] := by
 unfold rd_T27; rw [Int.toNat_natCast]; simp [List.getD, h]
theorem impl_Mat_106.hit (p : S27 → Bool) (l : List S27) (x : Int) (h0 : 0 ≤ x) (hx : x < l.length) (h : p (rd_T27 l x) = true) (hb : ∀ j : Nat, (j : Int) < x → p (rd_T27 l (j : Int)) = false) : impl_Mat_106.f p l = x := by
 obtain ⟨k, rfl⟩ := Int.eq_ofNat_of_zero_le h0
 have hk : k < l.length := by omega
 rw [impl_Mat_106.rd_get l k hk] at h
 unfold impl_Mat_106.f
 have : l.findIdx? p = some k := by
  rw [List.findIdx?_eq_some_iff_getElem]
  refine ⟨hk, h, fun j hj => ?_⟩
  have := hb j (by omega)
  rw [impl_Mat_106.rd_get l j (by omega)] at this
  simpa using this
 rw [this]
theorem impl_Mat_106.miss (p : S27 → Bool) (l : List S27) (hb : ∀ j : Nat, (j : Int) < l.length → p (rd_T27 l (j : Int)) = false) : impl_Mat_106.f p l = -1 := by
 unfold impl_Mat_106.f
 have : l.findIdx? p = none := by
  rw [List.findIdx?_eq_none_iff]
  intro x hx
  obtain ⟨j, hj, rfl⟩ := List.getElem_of_mem hx
  have := hb j (by omega)
  rw [impl_Mat_106.rd_get l j hj] at this
  exact this
 rw [this]
set_option maxHeartbeats 2000000 in
theorem impl_Mat_106.calls_some (p : S27 → Bool) (g : Nat) (lb : Array Value) (eg : ∀ args w, (callFunc g args).run Tryz.prog w = .ok (.enter g args) w) (ad : Addr) (c : Nat) (l : List S27) (w : World) (hr : Kd.C k27 w (some ad) l.length l)
  (hp : ∀ (x : S27) (W : World), Below w.heap.size w W → Calls Tryz.prog g (#[.agg #[.int .i64 x.f0, .int .i64 x.f1, .int .i64 x.f2, .int .i64 x.f3]] ++ lb) W fun e w' => e = .returned (.bool (p x)) ∧ Below w.heap.size w w') :
  Calls Tryz.prog 106 #[.slice (some ad) l.length c, .func (.func g) #[] lb] w fun e w' => e = .returned (.int .i64 (impl_Mat_106.f p l)) ∧ Below w.heap.size w w' := by
 have hu33 := Tryz.underlying27
 have hbig := Kd.C_max hr
 have HR := Aside0.mk hr
 have HP := Aside0.mk hp
 clear hr hp
 have hbig' : l.length ≤ 9223372036854775807 := hbig
 have HBIG := Aside0.mk hbig'
 clear hbig hbig'
 go_enter Tryz.func106, Tryz.ntmps106
 go_wp2
 go_loopg [5, 8] l.length (fun gg _ s8 wr => ∃ x : Int, s8 = .int .i64 x ∧ Aside0 (0 ≤ x ∧ x ≤ l.length ∧ (l.length : Int) - x ≤ gg) ∧ Aside0 (Below w.heap.size w wr) ∧ Aside0 (∀ j : Nat, (j : Int) < x → p (rd_T27 l (j : Int)) = false))
 case atStart => exact ⟨0, rfl, ⟨by omega⟩, ⟨Below.refl _ w⟩, ⟨fun j hj => absurd hj (by omega)⟩⟩
 case round =>
  obtain ⟨x, rfl, HX, BW, AA⟩ := hrel
  by_cases c4 : x < (l.length : Int)
  ·have c4b0 : decide (x < (l.length : Int)) = true := decide_eq_true c4
   have c5b0 : decide (0 ≤ x) = true := decide_eq_true HX.out.1
   have hcall := HP.out (rd_T27 l x) wr BW.out
   obtain ⟨ad', e', hx0, hx1, hx2, hx3⟩ := at_T27 HR.out x HX.out.1 c4
   cases e'
   replace hx0 := (BW.out.cell (World.block_lt_of_cell? w _ hx0)).trans hx0
   replace hx1 := (BW.out.cell (World.block_lt_of_cell? w _ hx1)).trans hx1
   replace hx2 := (BW.out.cell (World.block_lt_of_cell? w _ hx2)).trans hx2
   replace hx3 := (BW.out.cell (World.block_lt_of_cell? w _ hx3)).trans hx3
   have C4 := Aside0.mk c4
   clear c4
   generalize hy : rd_T27 l x = y at hcall hx0 hx1 hx2 hx3
   have HY := Aside0.mk hy
   clear hy
   have p5 : 0 ≤ x := HX.out.1
   have p215 := eq_true p5
   have q215 : (x < (l.length : Int)) = True := eq_true C4.out
   clear p5
   cases hq : p y with
   | true =>
    rw [hq] at hcall
    have HQ := Aside0.mk hq
    clear hq
    go_wp2_with (go_at_fn g; refine hcall.mono ?_; rintro e w' ⟨rfl, hb'⟩)
    go_ret
    refine ⟨?_, hb'⟩
    rw [impl_Mat_106.hit p l x HX.out.1 C4.out (by rw [HY.out]; exact HQ.out) AA.out]
    rfl
   | false =>
    rw [hq] at hcall
    have HQ := Aside0.mk hq
    clear hq
    go_wp2_with (go_at_fn g; refine hcall.mono ?_; rintro e w' ⟨rfl, hb'⟩)
    have hw : wrap64 (x + 1) = x + 1 := by
     have h1 := HX.out; have h2 := HBIG.out; have h3 := C4.out
     unfold wrap64; omega
    go_roundg ((l.length : Int) - (x + 1)).toNat
    case measure => have h1 := HX.out; have h3 := C4.out; omega
    case rel =>
     refine ⟨wrap64 (x + 1), rfl, ⟨?_⟩, ⟨hb'⟩, ⟨fun j hj => ?_⟩⟩
     ·have h1 := HX.out; have h3 := C4.out; rw [hw]; omega
     ·rw [hw] at hj
      by_cases e : (j : Int) = x
      ·rw [e, HY.out]; exact HQ.out
      ·exact AA.out j (by omega)
  ·have c4b0 : decide (x < (l.length : Int)) = false := decide_eq_false c4
   have hxe : x = l.length := by have := HX.out; omega
   have C4 := Aside0.mk hxe
   clear c4 hxe
   go_wp2
   go_ret
   refine ⟨?_, BW.out⟩
   rw [impl_Mat_106.miss p l (by rw [← C4.out]; exact AA.out)]
   rfl
set_option maxHeartbeats 2000000 in
theorem impl_Mat_106.calls_empty (p : S27 → Bool) (A : Option Addr) (c : Nat) (fv : Value) (w : World) :
  Calls Tryz.prog 106 #[.slice A 0 c, fv] w fun e w' => e = .returned (.int .i64 (impl_Mat_106.f p [])) ∧ Below w.heap.size w w' := by
 go_enter Tryz.func106, Tryz.ntmps106
 go_wp2
 go_loopg [5, 8] 0 (fun _ _ s8 wr => s8 = .int .i64 0 ∧ wr = w)
 case atStart => exact ⟨rfl, rfl⟩
 case round =>
  obtain ⟨rfl, rfl⟩ := hrel
  go_wp2
  go_ret
  exact ⟨rfl, Below.refl _ _⟩
theorem impl_Mat_106.calls (p : S27 → Bool) (g : Nat) (lb : Array Value) (eg : ∀ args w, (callFunc g args).run Tryz.prog w = .ok (.enter g args) w) (A : Option Addr) (c : Nat) (l : List S27) (w : World) (hr : Kd.C k27 w A l.length l)
  (hp : ∀ (x : S27) (W : World), Below w.heap.size w W → Calls Tryz.prog g (#[.agg #[.int .i64 x.f0, .int .i64 x.f1, .int .i64 x.f2, .int .i64 x.f3]] ++ lb) W fun e w' => e = .returned (.bool (p x)) ∧ Below w.heap.size w w') :
  Calls Tryz.prog 106 #[.slice A l.length c, .func (.func g) #[] lb] w fun e w' => e = .returned (.int .i64 (impl_Mat_106.f p l)) ∧ Below w.heap.size w w' := by
 cases l with
 | nil => exact impl_Mat_106.calls_empty p A c _ w
 | cons x xs =>
  obtain ⟨ad, rfl, _⟩ := hr.2.2 (by simp)
  exact impl_Mat_106.calls_some p g lb eg ad c (x :: xs) w hr hp
/-! ### impl_Mat_84: function 84 -/
/-- What the loop holds. -/
def impl_Mat_84.Inv (p : S27 → Bool) (l : List S27) (i j : Int) (m : List S27) : Prop :=
 m.length = l.length ∧ m.take i.toNat = (l.take j.toNat).filter (fun x => !p x) ∧ ∀ t : Nat, j ≤ t → rd_T27 m (t : Int) = rd_T27 l (t : Int)
theorem impl_Mat_84.rd_get (l : List S27) (j : Nat) (h : j < l.length) : rd_T27 l (j : Int) = l[j] := by
 unfold rd_T27; rw [Int.toNat_natCast]; simp [List.getD, h]
theorem impl_Mat_84.inv_start (p : S27 → Bool) (l : List S27) (k : Nat) (hk : k < l.length) (h : p l[k] = true) (hb : ∀ (j : Nat) (hj : j < k), p (l[j]'(Nat.lt_trans hj hk)) = false) : impl_Mat_84.Inv p l (k : Int) ((k : Int) + 1) l := by
 refine ⟨rfl, ?_, fun t _ => rfl⟩
 have e : ((k : Int) + 1).toNat = k + 1 := by omega
 rw [Int.toNat_natCast, e, List.take_succ_eq_append_getElem hk, List.filter_append]
 have e2 : (l.take k).filter (fun x => !p x) = l.take k := by
  rw [List.filter_eq_self]
  intro x hx
  obtain ⟨j, hj, rfl⟩ := List.getElem_of_mem hx
  have hj' : j < k := by rw [List.length_take] at hj; omega
  rw [List.getElem_take, hb j hj']; rfl
 rw [e2]; simp [h]
theorem impl_Mat_84.inv_keep (p : S27 → Bool) (l m : List S27) (i j : Int) (h0 : 0 ≤ i) (hij : i < j) (hj : j < l.length) (h : impl_Mat_84.Inv p l i j m) (hp : p (rd_T27 m j) = false) : impl_Mat_84.Inv p l (i + 1) (j + 1) (m.set i.toNat (rd_T27 m j)) := by
 obtain ⟨h1, h2, h3⟩ := h
 obtain ⟨i, rfl⟩ := Int.eq_ofNat_of_zero_le h0
 obtain ⟨j, rfl⟩ := Int.eq_ofNat_of_zero_le (show 0 ≤ j by omega)
 have hjl : j < l.length := by omega
 have him : i < m.length := by omega
 have e1 : ((i : Int) + 1).toNat = i + 1 := by omega
 have e2 : ((j : Int) + 1).toNat = j + 1 := by omega
 have e3 := h3 j (by omega)
 rw [Int.toNat_natCast] at h2 ⊢
 rw [Int.toNat_natCast] at h2
 refine ⟨by simpa using h1, ?_, fun t ht => ?_⟩
 ·rw [e1, e2, List.take_succ_eq_append_getElem hjl, List.filter_append, ← h2, List.take_succ_eq_append_getElem (by simpa using him)]
  rw [e3, impl_Mat_84.rd_get l j hjl] at hp ⊢
  congr 1
  ·rw [List.take_set_of_le (by omega)]
  ·simp [hp]
 ·have := h3 t (by omega)
  unfold rd_T27 at this ⊢
  rw [Int.toNat_natCast] at this ⊢
  simp only [List.getD] at this ⊢
  rw [List.getElem?_set_ne (by omega)]
  exact this
theorem impl_Mat_84.inv_skip (p : S27 → Bool) (l m : List S27) (i j : Int) (h0 : 0 ≤ i) (hij : i < j) (hj : j < l.length) (h : impl_Mat_84.Inv p l i j m) (hp : p (rd_T27 m j) = true) : impl_Mat_84.Inv p l i (j + 1) m := by
 obtain ⟨h1, h2, h3⟩ := h
 obtain ⟨j, rfl⟩ := Int.eq_ofNat_of_zero_le (show 0 ≤ j by omega)
 have hjl : j < l.length := by omega
 have e2 : ((j : Int) + 1).toNat = j + 1 := by omega
 have e3 := h3 j (by omega)
 rw [Int.toNat_natCast] at h2
 refine ⟨h1, ?_, fun t ht => h3 t (by omega)⟩
 rw [e2, List.take_succ_eq_append_getElem hjl, List.filter_append, ← h2]
 rw [e3, impl_Mat_84.rd_get l j hjl] at hp
 simp [hp]
theorem impl_Mat_84.set_cells_append (b : Nat) : ∀ (xs ys : List Value) (o : Nat) (w : World), w.setCells b o (xs ++ ys) = (w.setCells b o xs).setCells b (o + xs.length) ys
 | [], _, _, _ => rfl
 | x :: xs, ys, o, w => by
  have := impl_Mat_84.set_cells_append b xs ys (o + 1) (w.setCell ⟨b, o, none⟩ x)
  rw [List.cons_append, World.setCells, World.setCells, this, List.length_cons]; congr 1; omega
theorem impl_Mat_84.zeros (n : Nat) : (Builtin.zeroCells #[.int .i64 0, .int .i64 0, .int .i64 0, .int .i64 0] n).toList = List.replicate (n * 4) (Value.int .i64 0) := by
 apply List.ext_getElem
 ·simp [Builtin.zeroCells]
 ·intro i h1 h2
  simp only [Builtin.zeroCells, Array.toList_map, Array.toList_range, List.getElem_map, List.getElem_range, List.getElem_replicate]
  have : i % 4 < 4 := Nat.mod_lt _ (by decide)
  have h4 : i % 4 = 0 ∨ i % 4 = 1 ∨ i % 4 = 2 ∨ i % 4 = 3 := by omega
  show (#[Value.int .i64 0, .int .i64 0, .int .i64 0, .int .i64 0] : Array Value)[i % 4]! = _
  rcases h4 with h | h | h | h <;> rw [h] <;> rfl
/-- The end of a row, made zero. -/
theorem impl_Mat_84.clear_row {g n cap base : Nat} {ok : Nat → Prop} (d : Nat) : ∀ (W : World) (i : Nat) (xs : List S27), Kd.R k27 27 W base ok (.slice (some ⟨g, 0, none⟩) n cap) xs → i + d = n →
  ∃ xs', xs'.take i = xs.take i ∧ xs'.length = xs.length ∧ Kd.R k27 27 (W.setCells g (i * 4) (List.replicate (d * 4) (.int .i64 0))) base ok (.slice (some ⟨g, 0, none⟩) n cap) xs' ∧ W.grownBy (W.setCells g (i * 4) (List.replicate (d * 4) (.int .i64 0))) (some g) := by
 induction d with
 | zero => intro W i xs h e; exact ⟨xs, rfl, rfl, h, ⟨rfl, rfl, rfl, Nat.le_refl _, fun _ _ _ => rfl⟩⟩
 | succ d ih =>
  intro W i xs h e
  have hn := (Kd.R_reads' h).1
  obtain ⟨ce, hcl, hM, hcc, hfr⟩ := Kd.R_elem h z27 (i : Int) (by omega) (by omega)
  have HP := Kd.R_seg h (i : Int) (by omega) (by omega) (seg := [.int .i64 0, .int .i64 0, .int .i64 0, .int .i64 0]) (j := 0) hcl hcc (show 4 ≤ 4 from by decide) (x' := z27) (by
   obtain rfl := k27_openM hM
   exact k27_mkM _ _ _ z27) (fun _ hk => hk)
  rw [Int.toNat_natCast] at HP
  obtain ⟨h1, h2⟩ := HP
  obtain ⟨xs', q1, q2, q3, q4⟩ := ih _ (i + 1) _ h1 (by omega)
  have e1 : List.replicate ((d + 1) * 4) (Value.int .i64 0) = [.int .i64 0, .int .i64 0, .int .i64 0, .int .i64 0] ++ List.replicate (d * 4) (.int .i64 0) := by
   rw [show (d + 1) * 4 = 4 + d * 4 by omega, ← List.replicate_append_replicate]; rfl
  have e2 : (W.setCells g (i * 4) (List.replicate ((d + 1) * 4) (.int .i64 0))) = ((W.setCells g (i * (k27).sz + 0) [.int .i64 0, .int .i64 0, .int .i64 0, .int .i64 0]).setCells g ((i + 1) * 4) (List.replicate (d * 4) (.int .i64 0))) := by
   rw [e1, impl_Mat_84.set_cells_append]; congr 1; show i * 4 + 4 = (i + 1) * 4; omega
  rw [e2]
  refine ⟨xs', ?_, by simpa using q2, q3, h2.trans q4⟩
  have := congrArg (List.take i) q1
  rw [List.take_take, List.take_take, Nat.min_eq_left (Nat.le_succ i)] at this
  rw [this, List.take_set_of_le (Nat.le_refl _)]
theorem impl_Mat_84.cells_of_row {g n cap base : Nat} {ok : Nat → Prop} {W : World} {xs : List S27} (h : Kd.R k27 27 W base ok (.slice (some ⟨g, 0, none⟩) n cap) xs) (t : Nat) (ht : t < n * 4) : (W.cell? ⟨g, t, none⟩).isSome = true ∧ W.frozen? ⟨g, t, none⟩ = false := by
 obtain ⟨ce, hcl, hM, hcc, hfr⟩ := Kd.R_elem h z27 ((t / 4 : Nat) : Int) (by omega) (by omega)
 rw [Int.toNat_natCast, show (k27).sz = 4 from rfl] at hcc hfr
 have e : t / 4 * 4 + t % 4 = t := by omega
 have hl : ce.length = 4 := hcl
 have hr : t % 4 < ce.length := by rw [hl]; omega
 have h1 := hcc (t % 4) _ (List.getElem?_eq_getElem hr)
 have h2 := hfr (t % 4)
 rw [e] at h1 h2
 exact ⟨by rw [h1]; rfl, h2⟩
theorem impl_Mat_84.zero_run (W : World) : (zeroValue 27).run Tryz.prog W = .ok (.agg #[.int .i64 0, .int .i64 0, .int .i64 0, .int .i64 0]) W := by
 have := info27
 cases h : Tryz.prog.info? 27 with
 | none => rw [h] at this; cases this
 | some i =>
  rw [h] at this
  simp only [Option.map_some, Option.some.injEq, Prod.mk.injEq] at this
  simp [zeroValue, typeInfo, h, this.1]
theorem impl_Mat_84.clear_run {g n c base : Nat} {ok : Nat → Prop} {W : World} {xs : List S27} (h : Kd.R k27 27 W base ok (.slice (some ⟨g, 0, none⟩) n c) xs) (i : Nat) (hi : i < n) (ty : TypeId) (c' : Nat) :
  (Builtin.clear_ #[77] ty #[.slice (some ⟨g, i * 4, none⟩) (n - i) c']).run Tryz.prog W = .ok (.tuple #[]) (W.setCells g (i * 4) (List.replicate ((n - i) * 4) (.int .i64 0))) := by
 have hst := run_storeCells_cells (P := Tryz.prog) g (i * 4) (List.replicate ((n - i) * 4) (.int .i64 0)) 0 W (fun j hj => (impl_Mat_84.cells_of_row h (i * 4 + 0 + j) (by rw [List.length_replicate] at hj; omega)).1) (fun j hj => (impl_Mat_84.cells_of_row h (i * 4 + 0 + j) (by rw [List.length_replicate] at hj; omega)).2) (by intro v hv; rw [List.eq_of_mem_replicate hv]; rfl)
 simp only [Nat.add_zero] at hst
 have hz := impl_Mat_84.zeros (n - i)
 obtain ⟨q, hq⟩ : ∃ q, n - i = q + 1 := ⟨n - i - 1, by omega⟩
 rw [hq] at hst hz ⊢
 simp [Builtin.clear_, run_underlying Tryz.underlying77, impl_Mat_84.zero_run, Value.cells, hz, hst]
set_option maxHeartbeats 4000000 in
set_option maxRecDepth 100000 in
theorem impl_Mat_84.calls (p : S27 → Bool) (g : Nat) (lb : Array Value) (eg : ∀ args w, (callFunc g args).run Tryz.prog w = .ok (.enter g args) w) (P0_ : Nat → Prop) (u0_ : Value) (l : List S27) (w0 w : World) (hB : Below w0.heap.size w0 w) (ho : Kd.R k27 27 w w0.heap.size P0_ u0_ l)
  (hp : ∀ (x : S27) (W : World), Below w0.heap.size w0 W → Kept w W P0_ → Calls Tryz.prog g (#[.agg #[.int .i64 x.f0, .int .i64 x.f1, .int .i64 x.f2, .int .i64 x.f3]] ++ lb) W fun e w' => e = .returned (.bool (p x)) ∧ Below W.heap.size W w') :
  Calls Tryz.prog 84 #[u0_, .func (.func g) #[] lb] w fun e w' => ∃ v', e = .returned v' ∧ Kd.R k27 27 w' w0.heap.size (fun k_ => P0_ k_ ∨ w.heap.size ≤ k_) v' (l.filter fun x => !p x) ∧ Below w0.heap.size w0 w' ∧ Kept w w' P0_ := by
 have hu33 := Tryz.underlying27
 obtain ⟨A0, c0, e0, hlc, hC⟩ := Kd.R_reads ho
 subst e0
 have HI := impl_Mat_106.calls p g lb eg A0 c0 l w hC (fun x W hb => (hp x W (below_then hB hB.size hb) (Kept.of_below hb _)).mono fun e w' ⟨he, hb'⟩ => ⟨he, below_then hb hb.size hb'⟩)
 have HO := asd (show Kd.R k27 27 w w0.heap.size (fun k_ => P0_ k_ ∨ w.heap.size ≤ k_) (.slice A0 l.length c0) l from Kd.R_mono ho (fun k_ hk => .inl hk))
 have HP := Aside0.mk hp
 have HB := Aside0.mk hB
 have HBIG := asd (show l.length ≤ 9223372036854775807 from Kd.C_max hC)
 unfold impl_Mat_106.f at HI
 clear ho hp hB hC hlc
 cases hf : l.findIdx? p with
 | none =>
  rw [hf] at HI
  have hall : (l.filter fun x => !p x) = l := by
   rw [List.filter_eq_self]
   intro x hx
   have := List.findIdx?_eq_none_iff.1 hf x hx
   simp [this]
  rw [hall]
  clear hf hall
  replace HI : Calls Tryz.prog 106 #[.slice A0 l.length c0, .func (.func g) #[] lb] w fun e w' => e = .returned (.int .i64 (-1)) ∧ Below w.heap.size w w' := HI
  go_enter Tryz.func84, Tryz.ntmps84
  go_wp2_with (go_at_call 106; refine HI.mono ?_; rintro e w' ⟨rfl, hb'⟩)
  go_ret
  exact ⟨_, rfl, Kd.R_below HO.out hb', below_then HB.out HB.out.size hb', Kept.of_below hb' _⟩
 | some k =>
  rw [hf] at HI
  obtain ⟨hk, hpk, hbk⟩ := List.findIdx?_eq_some_iff_getElem.1 hf
  have HS := asd (impl_Mat_84.inv_start p l k hk hpk (fun j hj => by simpa using hbk j hj))
  have HK := Aside0.mk hk
  clear hf hpk hbk
  replace HI : Calls Tryz.prog 106 #[.slice A0 l.length c0, .func (.func g) #[] lb] w fun e w' => e = .returned (.int .i64 (k : Int)) ∧ Below w.heap.size w w' := HI
  have hne1 : ((k : Int) == -1) = false := beq_eq_false_iff_ne.2 (by omega)
  obtain ⟨go, co, eo, gb, gl, cl, HG⟩ := Kd.R_form HO.out (by omega)
  injection eo with ea_ en_ ec_
  subst ea_
  subst ec_
  clear en_ gl HG cl
  have HKW := asd (show wrap64 ((k : Int) + 1) = (k : Int) + 1 by have := HBIG.out; unfold wrap64; omega)
  clear hk
  go_enter Tryz.func84, Tryz.ntmps84
  go_wp2_with (go_at_call 106; refine HI.mono ?_; rintro e w' ⟨rfl, hb'⟩)
  go_loopg [5, 6, 7] l.length (fun gg s5 s6 _ wr => ∃ (i j : Int) (m : List S27), s5 = .int .i64 i ∧ s6 = .int .i64 j ∧ Aside0 (0 ≤ i ∧ i < j ∧ j ≤ l.length ∧ (l.length : Int) - j ≤ gg) ∧ Aside0 (impl_Mat_84.Inv p l i j m) ∧ Aside0 (Kd.R k27 27 wr w0.heap.size (fun k_ => P0_ k_ ∨ w.heap.size ≤ k_) (.slice (some ⟨go, 0, none⟩) l.length c0) m) ∧ Aside0 (Kept w wr P0_) ∧ Aside0 (Below w0.heap.size w0 wr))
  case atStart => exact ⟨k, wrap64 ((k : Int) + 1), l, rfl, rfl, ⟨by have := HK.out; rw [HKW.out]; omega⟩, ⟨by rw [HKW.out]; exact HS.out⟩, ⟨Kd.R_below HO.out hb'⟩, ⟨Kept.of_below hb' _⟩, ⟨below_then HB.out HB.out.size hb'⟩⟩
  case round =>
   clear HI
   obtain ⟨i, j, m, rfl, rfl, HX, HV, HR, HKP, HBW⟩ := hrel
   by_cases c4 : j < (l.length : Int)
   ·have c4b0 : decide (j < (l.length : Int)) = true := decide_eq_true c4
    have c5b0 : decide (0 ≤ j) = true := decide_eq_true (by have := HX.out; omega)
    obtain ⟨ce, hcl, hM, hcc, hfr⟩ := Kd.R_elem HR.out z27 j (by have := HX.out; omega) c4
    obtain rfl := k27_openM hM
    have hx0 : wr.cell? ⟨go, j.toNat * 4, none⟩ = some (.int .i64 ((rd_T27 m j).f0)) := hcc 0 _ rfl
    have hx1 : wr.cell? ⟨go, j.toNat * 4 + 1, none⟩ = some (.int .i64 ((rd_T27 m j).f1)) := hcc 1 _ rfl
    have hx2 : wr.cell? ⟨go, j.toNat * 4 + 2, none⟩ = some (.int .i64 ((rd_T27 m j).f2)) := hcc 2 _ rfl
    have hx3 : wr.cell? ⟨go, j.toNat * 4 + 3, none⟩ = some (.int .i64 ((rd_T27 m j).f3)) := hcc 3 _ rfl
    clear hcl hcc hfr hM
    have C4 := Aside0.mk c4
    have p215 : (0 ≤ j) = True := eq_true (by have := HX.out; omega)
    have q215 : (j < (l.length : Int)) = True := eq_true c4
    clear c4
    generalize hy : rd_T27 m j = y at hx0 hx1 hx2 hx3
    have HY := Aside0.mk hy
    clear hy
    have hI : 0 ≤ i ∧ i < (l.length : Int) := by have h1 := HX.out; have h2 := C4.out; omega
    have p300 : (0 ≤ i) = True := eq_true hI.1
    have q300 : (i < (l.length : Int)) = True := eq_true hI.2
    have c6b0 : decide (0 ≤ i) = true := decide_eq_true hI.1
    have c7b0 : decide (i < (l.length : Int)) = true := decide_eq_true hI.2
    have HI := Aside0.mk hI
    clear hI
    have hcall := HP.out y (wr.alloc (.cells #[.int .i64 y.f0, .int .i64 y.f1, .int .i64 y.f2, .int .i64 y.f3] 27)) (below_alloc HBW.out _) (Kept.alloc HKP.out _)
    cases hq : p y with
    | true =>
     rw [hq] at hcall
     have HQ := Aside0.mk hq
     clear hq
     go_wp2_with (go_at_fn g; refine hcall.mono ?_; rintro e w2 ⟨rfl, hb2⟩)
     go_roundg ((l.length : Int) - (j + 1)).toNat
     case measure => have h1 := HX.out; have h3 := C4.out; omega
     case rel =>
      have hw : wrap64 (j + 1) = j + 1 := by
       have h1 := HX.out; have h2 := HBIG.out; have h3 := C4.out
       unfold wrap64; omega
      have hb1 := Kept.below (Kept.alloc HKP.out (.cells #[.int .i64 y.f0, .int .i64 y.f1, .int .i64 y.f2, .int .i64 y.f3] 27)) hb2
      have hbb := below_then (below_alloc HBW.out (.cells #[.int .i64 y.f0, .int .i64 y.f1, .int .i64 y.f2, .int .i64 y.f3] 27)) (below_alloc HBW.out _).size hb2
      refine ⟨i, wrap64 (j + 1), m, rfl, rfl, ⟨?_⟩, ⟨?_⟩, ⟨Kd.R_below (Kd.R_alloc HR.out _) hb2⟩, ⟨hb1⟩, ⟨hbb⟩⟩
      ·have h1 := HX.out; have h3 := C4.out; rw [hw]; omega
      ·rw [hw]; exact impl_Mat_84.inv_skip p l m i j HX.out.1 HX.out.2.1 C4.out HV.out (by rw [HY.out]; exact HQ.out)
    | false =>
     rw [hq] at hcall
     have HQ := Aside0.mk hq
     clear hq
     go_wp2_with (go_at_fn g; refine hcall.mono ?_; rintro e w2 ⟨rfl, hb2⟩; have hz0 : w2.cell? ⟨wr.heap.size, 0, none⟩ = some (.int .i64 y.f0) := (hb2.cell (p := ⟨wr.heap.size, 0, none⟩) (by simp)).trans (by simp); have hz1 : w2.cell? ⟨wr.heap.size, 1, none⟩ = some (.int .i64 y.f1) := (hb2.cell (p := ⟨wr.heap.size, 1, none⟩) (by simp)).trans (by simp); have hz2 : w2.cell? ⟨wr.heap.size, 2, none⟩ = some (.int .i64 y.f2) := (hb2.cell (p := ⟨wr.heap.size, 2, none⟩) (by simp)).trans (by simp); have hz3 : w2.cell? ⟨wr.heap.size, 3, none⟩ = some (.int .i64 y.f3) := (hb2.cell (p := ⟨wr.heap.size, 3, none⟩) (by simp)).trans (by simp); have HR2 := asd (Kd.R_below (Kd.R_alloc HR.out (.cells #[.int .i64 y.f0, .int .i64 y.f1, .int .i64 y.f2, .int .i64 y.f3] 27)) hb2); obtain ⟨ce2, hcl2, hM2, hcc2, hfr2⟩ := Kd.R_elem HR2.out z27 i HI.out.1 HI.out.2; obtain rfl := k27_openM hM2; have hS2 := Kd.R_seg HR2.out i HI.out.1 HI.out.2 (seg := [.int .i64 y.f0, .int .i64 y.f1, .int .i64 y.f2, .int .i64 y.f3]) (j := 0) hcl2 hcc2 (show 4 ≤ 4 from by decide) (x' := y) (k27_mkM _ _ _ y) (fun _ hk => hk); have HS2 := Aside0.mk hS2; clear hS2; have hu0 := hcc2 0 _ rfl; have hu1 := hcc2 1 _ rfl; have hu2 := hcc2 2 _ rfl; have hu3 := hcc2 3 _ rfl; have hv0 := hfr2 0; have hv1 := hfr2 1; have hv2 := hfr2 2; have hv3 := hfr2 3; simp only [show (k27).sz = 4 from rfl, Nat.add_zero] at hu0 hu1 hu2 hu3 hv0 hv1 hv2 hv3; clear hcl2 hcc2 hfr2 hM2)
     go_roundg ((l.length : Int) - (j + 1)).toNat
     case measure => have h1 := HX.out; have h3 := C4.out; omega
     case rel =>
      have hw : wrap64 (j + 1) = j + 1 := by
       have h1 := HX.out; have h2 := HBIG.out; have h3 := C4.out
       unfold wrap64; omega
      have hw2 : wrap64 (i + 1) = i + 1 := by
       have h1 := HX.out; have h2 := HBIG.out; have h3 := C4.out
       unfold wrap64; omega
      have hb1 := Kept.below (Kept.alloc HKP.out (.cells #[.int .i64 y.f0, .int .i64 y.f1, .int .i64 y.f2, .int .i64 y.f3] 27)) hb2
      have hbb := below_then (below_alloc HBW.out (.cells #[.int .i64 y.f0, .int .i64 y.f1, .int .i64 y.f2, .int .i64 y.f3] 27)) (below_alloc HBW.out _).size hb2
      refine ⟨wrap64 (i + 1), wrap64 (j + 1), m.set i.toNat y, rfl, rfl, ⟨?_⟩, ⟨?_⟩, ⟨HS2.out.1⟩, ⟨Kept.of_grown HS2.out.2 hb1 (fun k_ e_ => HR2.out.1 k_ e_)⟩, ⟨?_⟩⟩
      ·have h1 := HX.out; have h3 := C4.out; rw [hw, hw2]; omega
      ·have := impl_Mat_84.inv_keep p l m i j HX.out.1 HX.out.2.1 C4.out HV.out (by rw [HY.out]; exact HQ.out)
       rw [hw, hw2]; rw [HY.out] at this; exact this
      ·exact below_set (below_set (below_set (below_set hbb gb) gb) gb) gb
   ·have c4b0 : decide (j < (l.length : Int)) = false := decide_eq_false c4
    have hje : j = l.length := by have := HX.out; omega
    obtain ⟨i, rfl⟩ := Int.eq_ofNat_of_zero_le HX.out.1
    have hil : i < l.length := by have := HX.out; omega
    have HJ := Aside0.mk hje
    have HIL := Aside0.mk hil
    have hlc := (Kd.R_reads' HR.out).2.1
    have hcl : ∀ ty, (Builtin.clear_ #[77] ty #[.slice (some ⟨go, i * 4, none⟩) (l.length - i) (c0 - i)]).run Tryz.prog wr = .ok (.tuple #[]) (wr.setCells go (i * 4) (List.replicate ((l.length - i) * 4) (.int .i64 0))) := fun ty => impl_Mat_84.clear_run HR.out i hil ty _
    clear c4 hje
    go_wp2
    go_ret
    obtain ⟨xs', q1, q2, q3, q4⟩ := impl_Mat_84.clear_row (l.length - i) wr i m HR.out (by have := HIL.out; omega)
    have hv := HV.out
    have hm := hv.1
    have hR := Kd.R_take q3 (m := i) (by rw [q2, hm]; have := HIL.out; omega)
    have hfin : xs'.take i = l.filter fun x => !p x := by
     have h2 := hv.2.1
     rw [Int.toNat_natCast, HJ.out, Int.toNat_natCast, List.take_length] at h2
     rw [q1, h2]
    rw [hfin] at hR
    exact ⟨_, rfl, hR, HBW.out.grown q4 HBW.out.size (fun k_ e_ => by injection e_ with e_; subst e_; exact gb), Kept.of_grown q4 HKP.out (fun k_ e_ => HR.out.1 k_ e_)⟩
/-! ### impl_norm: function 107 -/
def impl_norm.f (a0 : Int) (a1_0 : Int) (a1_1 : Int) : Option (Int) := some (wrap64 ((wrap64 ((wrap64 (a1_0 * a1_0)) + (wrap64 ((wrap64 (a0 * a1_0)) * a1_1)))) + (wrap64 (a1_1 * a1_1))))
set_option maxHeartbeats 8000000 in
set_option maxRecDepth 100000 in
theorem impl_norm.calls (a0 : Int) (a1_0 : Int) (a1_1 : Int) (r : Int) (w : World) (h : impl_norm.f a0 a1_0 a1_1 = some r) :
  Calls Tryz.prog 107 #[.int .i64 a0, .agg #[.int .i64 a1_0, .int .i64 a1_1]] w fun e w' => e = .returned (.int .i64 r) ∧ Below w.heap.size w w' := by
 have hu31 := Tryz.underlying31
 have HB := asd (Below.refl w.heap.size w)
 have H : (some (wrap64 ((wrap64 ((wrap64 (a1_0 * a1_0)) + (wrap64 ((wrap64 (a0 * a1_0)) * a1_1)))) + (wrap64 (a1_1 * a1_1))))) = some r := h
 clear h
 obtain rfl := Option.some.inj H
 go_enter Tryz.func107, Tryz.ntmps107
 go_wp2_with (first | ((with_reducible refine gd 3 rfl ?_); refine bx #[.int .i64 a1_0, .int .i64 a1_1] 31 ?_; intro gb356 hg w3 BK356 hb; have GE356 := ngw0 hg HB; replace HB := bS0 HB hb; clear hb hg; obtain ⟨hcz4_0, hcz4_1, hfz4_0, hfz4_1⟩ := bz2 BK356))
 go_ret
 exact er (bbw1 HB GE356)

end Go.Proofs.YtedmadofpdkekaaGreat.PA
