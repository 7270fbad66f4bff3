/- Walks written by program: each Go function that the law reaches comes to the plain function beside it. -/
import Derived.Test.YtfkdcngpjppnbaaPAx0
import Derived.Test.YtfkdcngpjppnbaaPAx1
import Derived.Test.YtfkdcngpjppnbaaPAx5
namespace Go.Proofs.Ytfkdcngpjppnbaa.PA
open Go.RowKit Go.Proofs.YtfkdcngpjppnbaaW.PrintWords Go.Proofs.YtfkdcngpjppnbaaW.PrintLast Go.Proofs.YtfkdcngpjppnbaaW.PrintMore
attribute [local go_sem] max2_int min2_int max_two min_two max_three min_three max_four min_four   -- for this text's walks alone
set_option linter.unusedVariables false
set_option linter.unusedSimpArgs false

/-! ### impl_IsLattice: function 55 -/
def impl_IsLattice.f (a0_0 : Int) (a0_1 : Int) (a0_2 : Int) : Option (Bool) := (impl_within.f a0_0 1 64).bind fun t351 => (if t351 = true then ((impl_within.f a0_2 1 64).bind fun t352 => (if t352 = true then ((impl_within.f a0_1 0 (wrap64 (a0_0 - 1))).bind fun t353 => (if t353 = true then ((impl_Lattice_index.f a0_0 a0_1 a0_2).bind fun t354 => (some (decide (t354 ≤ 64)))) else (some false))) else (some false))) else (some false))
set_option maxHeartbeats 8000000 in
set_option maxRecDepth 100000 in
theorem impl_IsLattice.calls (a0_0 : Int) (a0_1 : Int) (a0_2 : Int) (r : Bool) (w : World) (h : impl_IsLattice.f a0_0 a0_1 a0_2 = some r) :
  Calls Try.prog 55 #[.agg #[.int .i64 a0_0, .int .i64 a0_1, .int .i64 a0_2]] w fun e w' => e = .returned (.bool r) ∧ Below w.heap.size w w' := by
 have hu33 := Try.underlying33
 have HB := asd (Below.refl w.heap.size w)
 have H : ((impl_within.f a0_0 1 64).bind fun t351 => (if t351 = true then ((impl_within.f a0_2 1 64).bind fun t352 => (if t352 = true then ((impl_within.f a0_1 0 (wrap64 (a0_0 - 1))).bind fun t353 => (if t353 = true then ((impl_Lattice_index.f a0_0 a0_1 a0_2).bind fun t354 => (some (decide (t354 ≤ 64)))) else (some false))) else (some false))) else (some false))) = some r := h
 clear h
 obtain ⟨t351, A2, H⟩ := ob H
 try dsimp only at H
 by_cases c3 : t351 = true
 subst c3
 replace H := ifT H
 obtain ⟨t352, A4, H⟩ := ob H
 try dsimp only at H
 by_cases c5 : t352 = true
 subst c5
 replace H := ifT H
 obtain ⟨t353, A6, H⟩ := ob H
 try dsimp only at H
 by_cases c7 : t353 = true
 subst c7
 replace H := ifT H
 obtain ⟨t354, A8, H⟩ := ob H
 try dsimp only at H
 obtain rfl := Option.some.inj H
 rotate_left
 replace c7 := Bool.eq_false_iff.mpr c7
 subst c7
 replace H := ifF H
 obtain rfl := Option.some.inj H
 rotate_left
 replace c5 := Bool.eq_false_iff.mpr c5
 subst c5
 replace H := ifF H
 obtain rfl := Option.some.inj H
 rotate_left
 replace c3 := Bool.eq_false_iff.mpr c3
 subst c3
 replace H := ifF H
 obtain rfl := Option.some.inj H
 rotate_left
 all_goals
  go_enter Try.func55, Try.ntmps55
  go_wp2_with (first | ((with_reducible refine gd 1 rfl ?_); refine bx #[.int .i64 a0_0, .int .i64 a0_1, .int .i64 a0_2] 33 ?_; intro gb350 hg w9 BK350 hb; have GE350 := ngw0 hg HB; replace HB := bS0 HB hb; clear hb hg; obtain ⟨hcz10_0, hcz10_1, hcz10_2, hfz10_0, hfz10_1, hfz10_2⟩ := bz3 BK350) | ((with_reducible refine gate_callee (f := 42) rfl ?_); refine gl 5 Try.func42 #[.int .i64 a0_0, .int .i64 1, .int .i64 64] ?_; (with_reducible refine (impl_within.calls _ _ _ _ _ A2.out).mono ?_); rintro e w' ⟨rfl, ⟨nd, rfl⟩⟩; refine ⟨_, rfl, ?_⟩) | (go_at_call 42; (with_reducible refine (impl_within.calls _ _ _ _ _ A4.out).mono ?_); rintro e w' ⟨rfl, ⟨nd, rfl⟩⟩) | (go_at_call 42; (with_reducible refine (impl_within.calls _ _ _ _ _ A6.out).mono ?_); rintro e w' ⟨rfl, ⟨nd, rfl⟩⟩) | (go_at_call 40; (with_reducible refine (impl_Lattice_index.calls _ _ _ _ _ A8.out).mono ?_); rintro e w11 ⟨rfl, hb⟩; replace BK350 := bB BK350 hb; replace HB := bS1 HB GE350 hb; (try clear hb)))
  go_ret
  exact er (bbw1 HB GE350)
/-! ### impl_IsFrame: function 61 -/
def impl_IsFrame.f (a0 : Int) : Option (Bool) := (impl_within.f a0 0 1).bind fun t355 => (some t355)
set_option maxHeartbeats 8000000 in
set_option maxRecDepth 100000 in
theorem impl_IsFrame.calls (a0 : Int) (r : Bool) (w : World) (h : impl_IsFrame.f a0 = some r) :
  Calls Try.prog 61 #[.int .i64 a0] w fun e w' => e = .returned (.bool r) ∧ Drawn0 w w' := by
 have H : ((impl_within.f a0 0 1).bind fun t355 => (some t355)) = some r := h
 clear h
 obtain ⟨t355, A2, H⟩ := ob H
 try dsimp only at H
 obtain rfl := Option.some.inj H
 go_enter Try.func61, Try.ntmps61
 go_wp2_with (first | ((with_reducible refine gate_callee (f := 42) rfl ?_); refine gl 4 Try.func42 #[.int .i64 a0, .int .i64 0, .int .i64 1] ?_; (with_reducible refine (impl_within.calls _ _ _ _ _ A2.out).mono ?_); rintro e w' ⟨rfl, ⟨nd, rfl⟩⟩; refine ⟨_, rfl, ?_⟩))
 go_ret
 exact ⟨by first | rfl | (simp; done) | (simp [*]; done), by repeat (first | exact Drawn0.refl _ | apply Drawn0.step)⟩
/-! ### impl_frameCode: function 48 -/
def impl_frameCode.f (a0 : Int) (a1_0 : Int) (a1_1 : Int) (a1_2 : Int) : Option (Int) := (impl_IsFrame.f a0).bind fun t357 => (if t357 = true then ((impl_IsLattice.f a1_0 a1_1 a1_2).bind fun t358 => (if t358 = true then (some 0) else (some 1))) else (some 1))
set_option maxHeartbeats 8000000 in
set_option maxRecDepth 100000 in
theorem impl_frameCode.calls (a0 : Int) (a1_0 : Int) (a1_1 : Int) (a1_2 : Int) (r : Int) (w : World) (h : impl_frameCode.f a0 a1_0 a1_1 a1_2 = some r) :
  Calls Try.prog 48 #[.int .i64 a0, .agg #[.int .i64 a1_0, .int .i64 a1_1, .int .i64 a1_2]] w fun e w' => e = .returned (.int .i64 r) ∧ Below w.heap.size w w' := by
 have hu33 := Try.underlying33
 have HB := asd (Below.refl w.heap.size w)
 have H : ((impl_IsFrame.f a0).bind fun t357 => (if t357 = true then ((impl_IsLattice.f a1_0 a1_1 a1_2).bind fun t358 => (if t358 = true then (some 0) else (some 1))) else (some 1))) = some r := h
 clear h
 obtain ⟨t357, A3, H⟩ := ob H
 try dsimp only at H
 by_cases c4 : t357 = true
 subst c4
 replace H := ifT H
 obtain ⟨t358, A5, H⟩ := ob H
 try dsimp only at H
 by_cases c6 : t358 = true
 subst c6
 replace H := ifT H
 obtain rfl := Option.some.inj H
 rotate_left
 replace c6 := Bool.eq_false_iff.mpr c6
 subst c6
 replace H := ifF H
 obtain rfl := Option.some.inj H
 rotate_left
 replace c4 := Bool.eq_false_iff.mpr c4
 subst c4
 replace H := ifF H
 obtain rfl := Option.some.inj H
 rotate_left
 all_goals
  go_enter Try.func48, Try.ntmps48
 rotate_left 2
 ·go_wp2_with (first | ((with_reducible refine gd 3 rfl ?_); refine bx #[.int .i64 a1_0, .int .i64 a1_1, .int .i64 a1_2] 33 ?_; intro gb356 hg w13 BK356 hb; have GE356 := ngw0 hg HB; replace HB := bS0 HB hb; clear hb hg) | ((with_reducible refine gate_callee (f := 61) rfl ?_); refine gl 6 Try.func61 #[.int .i64 a0] ?_; (with_reducible refine (impl_IsFrame.calls _ _ _ A3.out).mono ?_); rintro e w' ⟨rfl, ⟨nd, rfl⟩⟩; refine ⟨_, rfl, ?_⟩))
  go_ret
  exact er (bbw1 HB GE356)
 all_goals
  go_wp2_with (first | ((with_reducible refine gd 3 rfl ?_); refine bx #[.int .i64 a1_0, .int .i64 a1_1, .int .i64 a1_2] 33 ?_; intro gb356 hg w7 BK356 hb; have GE356 := ngw0 hg HB; replace HB := bS0 HB hb; clear hb hg) | ((with_reducible refine gate_callee (f := 61) rfl ?_); refine gl 6 Try.func61 #[.int .i64 a0] ?_; (with_reducible refine (impl_IsFrame.calls _ _ _ A3.out).mono ?_); rintro e w' ⟨rfl, ⟨nd, rfl⟩⟩; refine ⟨_, rfl, ?_⟩; have hcz8_0 : w7.cell? ⟨gb356, 0, none⟩ = some (.int .i64 a1_0) := bcl BK356 0; have hcz8_1 : w7.cell? ⟨gb356, 1, none⟩ = some (.int .i64 a1_1) := bcl BK356 1; have hcz8_2 : w7.cell? ⟨gb356, 2, none⟩ = some (.int .i64 a1_2) := bcl BK356 2; have hfz8_0 := blk_frozen BK356.out 0; have hfz8_1 := blk_frozen BK356.out 1; have hfz8_2 := blk_frozen BK356.out 2) | (go_at_call 55; (with_reducible refine (impl_IsLattice.calls _ _ _ _ _ A5.out).mono ?_); rintro e w9 ⟨rfl, hb⟩; replace BK356 := bB BK356 hb; replace HB := bS1 HB GE356 hb; (try clear hb)))
  go_ret
  exact er (bbw1 HB GE356)
/-! ### impl_coloursCode: function 35 -/
def impl_coloursCode.f (k : Nat) (a0 : Int) (a1_0 : Int) (a1_1 : Int) (a1_2 : Int) (a2 : Int) (a3 : Int) : Option (Int) := (impl_frameCode.f a0 a1_0 a1_1 a1_2).bind fun t360 => (if t360 = 0 then ((impl_within.f a2 1 10).bind fun t361 => (if t361 = true then ((impl_Lattice_index.f a1_0 a1_1 a1_2).bind fun t362 => ((impl_power.f k a2 t362 a3).bind fun t363 => (if t363 > a3 then (some 3) else (some 0)))) else (some 2))) else (some t360))
set_option maxHeartbeats 8000000 in
set_option maxRecDepth 100000 in
theorem impl_coloursCode.calls (k : Nat) (a0 : Int) (a1_0 : Int) (a1_1 : Int) (a1_2 : Int) (a2 : Int) (a3 : Int) (r : Int) (w : World) (h : impl_coloursCode.f k a0 a1_0 a1_1 a1_2 a2 a3 = some r) :
  Calls Try.prog 35 #[.int .i64 a0, .agg #[.int .i64 a1_0, .int .i64 a1_1, .int .i64 a1_2], .int .i64 a2, .int .i64 a3] w fun e w' => e = .returned (.int .i64 r) ∧ Below w.heap.size w w' := by
 have hu33 := Try.underlying33
 have HB := asd (Below.refl w.heap.size w)
 have H : ((impl_frameCode.f a0 a1_0 a1_1 a1_2).bind fun t360 => (if t360 = 0 then ((impl_within.f a2 1 10).bind fun t361 => (if t361 = true then ((impl_Lattice_index.f a1_0 a1_1 a1_2).bind fun t362 => ((impl_power.f k a2 t362 a3).bind fun t363 => (if t363 > a3 then (some 3) else (some 0)))) else (some 2))) else (some t360))) = some r := h
 clear h
 obtain ⟨t360, A5, H⟩ := ob H
 try dsimp only at H
 by_cases c6 : t360 = 0
 rw [if_pos c6] at H
 have c6b0 : (t360 == 0) = true := beq_iff_eq.mpr c6
 have c6b1 : (t360 != 0) = false := bne_eq_false_iff_eq.mpr c6
 clear c6
 obtain ⟨t361, A7, H⟩ := ob H
 try dsimp only at H
 by_cases c8 : t361 = true
 subst c8
 replace H := ifT H
 obtain ⟨t362, A9, H⟩ := ob H
 try dsimp only at H
 obtain ⟨t363, A10, H⟩ := ob H
 try dsimp only at H
 by_cases c11 : t363 > a3
 rw [if_pos c11] at H
 have c11b0 : decide (a3 < t363) = true := decide_eq_true c11
 clear c11
 obtain rfl := Option.some.inj H
 rotate_left
 rw [if_neg c11] at H
 have c11b0 : decide (a3 < t363) = false := decide_eq_false c11
 clear c11
 obtain rfl := Option.some.inj H
 rotate_left
 replace c8 := Bool.eq_false_iff.mpr c8
 subst c8
 replace H := ifF H
 obtain rfl := Option.some.inj H
 rotate_left
 rw [if_neg c6] at H
 have c6b0 : (t360 == 0) = false := beq_eq_false_iff_ne.mpr c6
 have c6b1 : (t360 != 0) = true := bne_iff_ne.mpr c6
 obtain rfl := Option.some.inj H
 rotate_left
 all_goals
  go_enter Try.func35, Try.ntmps35
 rotate_left 2
 ·go_wp2_with (first | ((with_reducible refine gd 5 rfl ?_); refine bx #[.int .i64 a1_0, .int .i64 a1_1, .int .i64 a1_2] 33 ?_; intro gb359 hg w22 BK359 hb; have GE359 := ngw0 hg HB; replace HB := bS0 HB hb; clear hb hg; obtain ⟨hcz23_0, hcz23_1, hcz23_2, hfz23_0, hfz23_1, hfz23_2⟩ := bz3 BK359) | ((with_reducible refine gate_callee (f := 48) rfl ?_); refine gl 12 Try.func48 #[.int .i64 a0, .agg #[.int .i64 a1_0, .int .i64 a1_1, .int .i64 a1_2]] ?_; (with_reducible refine (impl_frameCode.calls _ _ _ _ _ _ A5.out).mono ?_); rintro e w24 ⟨rfl, hb⟩; refine ⟨_, rfl, ?_⟩; replace BK359 := bB BK359 hb; replace HB := bS1 HB GE359 hb; (try clear hb)) | ((with_reducible refine gate_callee (f := 42) rfl ?_); refine gl 17 Try.func42 #[.int .i64 a2, .int .i64 1, .int .i64 10] ?_; (with_reducible refine (impl_within.calls _ _ _ _ _ A7.out).mono ?_); rintro e w' ⟨rfl, ⟨nd, rfl⟩⟩; refine ⟨_, rfl, ?_⟩))
  go_ret
  exact er (bbw1 HB GE359)
 rotate_left
 all_goals
  go_wp2_with (first | ((with_reducible refine gd 5 rfl ?_); refine bx #[.int .i64 a1_0, .int .i64 a1_1, .int .i64 a1_2] 33 ?_; intro gb359 hg w12 BK359 hb; have GE359 := ngw0 hg HB; replace HB := bS0 HB hb; clear hb hg; obtain ⟨hcz13_0, hcz13_1, hcz13_2, hfz13_0, hfz13_1, hfz13_2⟩ := bz3 BK359) | ((with_reducible refine gate_callee (f := 48) rfl ?_); refine gl 12 Try.func48 #[.int .i64 a0, .agg #[.int .i64 a1_0, .int .i64 a1_1, .int .i64 a1_2]] ?_; (with_reducible refine (impl_frameCode.calls _ _ _ _ _ _ A5.out).mono ?_); rintro e w14 ⟨rfl, hb⟩; refine ⟨_, rfl, ?_⟩; replace BK359 := bB BK359 hb; replace HB := bS1 HB GE359 hb; (try clear hb)) | ((with_reducible refine gate_callee (f := 42) rfl ?_); refine gl 17 Try.func42 #[.int .i64 a2, .int .i64 1, .int .i64 10] ?_; (with_reducible refine (impl_within.calls _ _ _ _ _ A7.out).mono ?_); rintro e w' ⟨rfl, ⟨nd, rfl⟩⟩; refine ⟨_, rfl, ?_⟩; have hcz15_0 : w14.cell? ⟨gb359, 0, none⟩ = some (.int .i64 a1_0) := bcl BK359 0; have hcz15_1 : w14.cell? ⟨gb359, 1, none⟩ = some (.int .i64 a1_1) := bcl BK359 1; have hcz15_2 : w14.cell? ⟨gb359, 2, none⟩ = some (.int .i64 a1_2) := bcl BK359 2; have hfz15_0 := blk_frozen BK359.out 0; have hfz15_1 := blk_frozen BK359.out 1; have hfz15_2 := blk_frozen BK359.out 2) | ((with_reducible refine gate_callee (f := 40) rfl ?_); refine gl 21 Try.func40 #[.agg #[.int .i64 a1_0, .int .i64 a1_1, .int .i64 a1_2]] ?_; (with_reducible refine (impl_Lattice_index.calls _ _ _ _ _ A9.out).mono ?_); rintro e w16 ⟨rfl, hb⟩; refine ⟨_, rfl, ?_⟩; replace BK359 := bB BK359 hb; replace HB := bS1 HB GE359 hb; (try clear hb)) | ((with_reducible refine gate_callee (f := 39) rfl ?_); refine gl 23 Try.func39 #[.int .i64 a2, .int .i64 t362, .int .i64 a3] ?_; (with_reducible refine (impl_power.calls _ _ _ _ _ _ A10.out).mono ?_); rintro e w' ⟨rfl, ⟨nd, rfl⟩⟩; refine ⟨_, rfl, ?_⟩))
  go_ret
  exact er (bbw1 HB GE359)
/-! ### impl_sublattices: function 43 -/
mutual
def impl_sublattices.l0 : Nat → Int → List (S33) → Int → Option ((List (S33)))
 | 0, _, _, _ => none
 | k + 1, x0, x3, x4 => if x4 ≤ x0 then (impl_sublattices.l1 k x0 x3 x4 x4 0) else (some x3)
def impl_sublattices.l1 : Nat → Int → List (S33) → Int → Int → Int → Option ((List (S33)))
 | 0, _, _, _, _, _ => none
 | k + 1, x0, x3, x4, x12, x13 => if x13 < x12 then (if x4 = 0 then (none) else (if (Int.tmod x0 x4) = 0 then (if x3.length < 5864062014805 then (impl_sublattices.l1 k x0 (x3 ++ [(⟨x4, x13, wrap64 (Int.tdiv x0 x4)⟩ : S33)]) x4 x12 (wrap64 (x13 + 1))) else (none)) else (impl_sublattices.l1 k x0 x3 x4 x12 (wrap64 (x13 + 1))))) else (impl_sublattices.l0 k x0 x3 (wrap64 (x4 + 1)))
end
def impl_sublattices.f (k : Nat) (a0 : Int) : Option ((List (S33))) := impl_sublattices.l0 k a0 (([] : List (S33))) 1
set_option maxHeartbeats 8000000 in
set_option maxRecDepth 100000 in
theorem impl_sublattices.calls (k : Nat) (a0 : Int) (r : List (S33)) (w : World) (h : impl_sublattices.f k a0 = some r) :
  Calls Try.prog 43 #[.int .i64 a0] w fun e w' => ∃ v0_ : Value, e = .returned (v0_) ∧ Kd.R k33 33 w' w.heap.size (fun _ => True) v0_ r ∧ Below w.heap.size w w' := by
 have hu33 := Try.underlying33
 have HB := asd (Below.refl w.heap.size w)
 have H : (impl_sublattices.l0 k a0 (([] : List (S33))) 1) = some r := h
 clear h
 obtain ⟨y364, hy364⟩ : ∃ y_ : List (S33), y_ = (([] : List (S33))) := ⟨_, rfl⟩
 replace H : (impl_sublattices.l0 k a0 y364 1) = some r := by first | (rw [hy364]; with_reducible exact H) | (have H2_ := (Option.bind_some _ _).symm.trans H; rw [hy364]; with_reducible exact H2_) | (have H2_ := (Option.bind_some _ _).symm.trans H; with_reducible exact H2_) | with_reducible exact H | (rw [hy364]; exact H) | exact H
 have Ny364 := Aside0.mk hy364
 clear hy364
 have H' := Aside0.mk H
 clear H
 go_enter Try.func43, Try.ntmps43
 go_wp2_with (first | ((with_reducible refine gd 6 rfl ?_); refine Kd.R_lit k33 _ 33 ?hg (N := 6) ?hd (xs := ([] : List (S33))) (inner := []) (ok := fun _ => True) (okp := fun _ => True) ?hr ?hp (fun _ hk => hk) trivial (Below.refl _ _) (Nat.le_refl _) (by simp) ?_; (case hd => rfl); (case hg => rfl); (case hr => first | (go_simp; done) | (go_simp; rfl)); (case hp => exact (Reps.none _ _)); intro v365 w2 ho3 hb hg_ hnew_; clear hg_ hnew_; (first | rw [← Ny364.out] at ho3 | (simp only [Int.reduceToNat] at ho3; rw [← Ny364.out] at ho3)); have HO366 := asd (Kd.R_lower ho3 (bsz0 HB)); replace HB := bS0 HB hb; clear hb ho3))
 go_loopg [3, 4] k (fun kq v3 v4 w' => ∃ (x3_1 : List (S33)) (x4_1 : Int), v4 = .int .i64 x4_1 ∧ Aside0 (impl_sublattices.l0 kq a0 x3_1 x4_1 = some r) ∧ Aside0 (kq ≤ k) ∧ Aside0 (Kd.R k33 33 w' w.heap.size (fun _ => True) v3 x3_1) ∧ Aside0 (Below w.heap.size w w'))
 case atStart => exact ⟨(y364), (1), (by first | rfl | (simp; done) | (simp [*]; done)), H', ⟨Nat.le_refl _⟩, ⟨by (with_reducible repeat (first | apply Kd.R_alloc | apply Kd.R_drewN | apply Kd.R_drew)); exact HO366.out⟩, ⟨bbw0 HB⟩⟩
 case round =>
  clear H'
  try clear p2
  obtain ⟨x3_1, x4_1, rfl, HA, HK1, HO_3, HB⟩ := hrel
  cases gk with
  | zero => exact absurd HA.out (by simp [impl_sublattices.l0])
  | succ k1 =>
   have H := HA.out
   clear HA
   simp only [impl_sublattices.l0] at H
   by_cases c4 : x4_1 ≤ a0
   ·rw [if_pos c4] at H
    have c4b0 := decide_eq_true c4
    clear c4
    have H' := Aside0.mk H
    clear H
    go_wp2
    go_loopg [3, 13] k1 (fun kq v3 v13 w' => ∃ (x3_2 : List (S33)) (x13_2 : Int), v13 = .int .i64 x13_2 ∧ Aside0 (impl_sublattices.l1 kq a0 x3_2 x4_1 x4_1 x13_2 = some r) ∧ Aside0 (kq ≤ k1) ∧ Aside0 (Kd.R k33 33 w' w.heap.size (fun _ => True) v3 x3_2) ∧ Aside0 (Below w.heap.size w w'))
    case atStart => exact ⟨(x3_1), (0), (by first | rfl | (simp; done) | (simp [*]; done)), H', ⟨Nat.le_refl _⟩, ⟨by (with_reducible repeat (first | apply Kd.R_alloc | apply Kd.R_drewN | apply Kd.R_drew)); exact HO_3.out⟩, ⟨bbw0 HB⟩⟩
    case round =>
     clear H'
     try clear p2
     try clear c4
     try clear c4b0
     try clear p2
     obtain ⟨x3_2, x13_2, rfl, HA, HK2, HO_3, HB⟩ := hrel
     cases gk with
     | zero => exact absurd HA.out (by simp [impl_sublattices.l1])
     | succ k2 =>
      have H := HA.out
      clear HA
      simp only [impl_sublattices.l1] at H
      by_cases c5 : x13_2 < x4_1
      rw [if_pos c5] at H
      have c5b0 := decide_eq_true c5
      clear c5
      by_cases c6 : x4_1 = 0
      ·rw [if_pos c6] at H
       exact absurd H (by simp)
      rw [if_neg c6] at H
      have c6b0 : (x4_1 == 0) = false := beq_eq_false_iff_ne.mpr c6
      have c6b1 : (x4_1 != 0) = true := bne_iff_ne.mpr c6
      by_cases c7 : (Int.tmod a0 x4_1) = 0
      rw [if_pos c7] at H
      have c7b0 : ((Int.tmod a0 x4_1) == 0) = true := beq_iff_eq.mpr c7
      have c7b1 : ((Int.tmod a0 x4_1) != 0) = false := bne_eq_false_iff_eq.mpr c7
      clear c7
      by_cases c8 : x3_2.length < 5864062014805
      rw [if_pos c8] at H
      have LMc8 := Aside0.mk c8
      clear c8
      obtain ⟨y367, hy367⟩ : ∃ y_ : List (S33), y_ = (x3_2 ++ [(⟨x4_1, x13_2, wrap64 (Int.tdiv a0 x4_1)⟩ : S33)]) := ⟨_, rfl⟩
      replace H : (impl_sublattices.l1 k2 a0 y367 x4_1 x4_1 (wrap64 (x13_2 + 1))) = some r := by first | (rw [hy367]; with_reducible exact H) | (have H2_ := (Option.bind_some _ _).symm.trans H; rw [hy367]; with_reducible exact H2_) | (have H2_ := (Option.bind_some _ _).symm.trans H; with_reducible exact H2_) | with_reducible exact H | (rw [hy367]; exact H) | exact H
      have Ny367 := Aside0.mk hy367
      clear hy367
      have H' := Aside0.mk H
      clear H
      rotate_left
      ·rw [if_neg c8] at H
       exact absurd H (by simp)
      rw [if_neg c7] at H
      have c7b0 : ((Int.tmod a0 x4_1) == 0) = false := beq_eq_false_iff_ne.mpr c7
      have c7b1 : ((Int.tmod a0 x4_1) != 0) = true := bne_iff_ne.mpr c7
      have H' := Aside0.mk H
      clear H
      rotate_left
      rw [if_neg c5] at H
      have c5b0 := decide_eq_false c5
      clear c5
      have H' := Aside0.mk H
      clear H
      rotate_left
      go_wp2_with (first | ((with_reducible refine gate_builtin (b := .append) (xs := #[.tmp 20, .tmp 27]) rfl ?_); at_builtin; refine Kd.R_append k33 (w0 := w) w.heap.size rfl (.tmp 20) (.tmp 27) 37 33 (.agg #[(.int .i64 0), (.int .i64 0), (.int .i64 0)]) 24 rfl Try.underlying37 info33 rfl (by decide) (by omega) u3 x3_2 (⟨x4_1, x13_2, wrap64 (Int.tdiv a0 x4_1)⟩ : S33) [.int .i64 x4_1, .int .i64 x13_2, .int .i64 (wrap64 (Int.tdiv a0 x4_1))] (fun _ => True) (fun _ => False) rfl rfl ?aP (fun _ hk => hk.elim) ?aF ?aO ?aB ?aS ?aL ?_; (case aP => exact k33_mkM _ _ _ (⟨x4_1, x13_2, wrap64 (Int.tdiv a0 x4_1)⟩ : S33)); (case aB => exact (bbw0 HB)); (case aF => exact (fun _ _ => trivial)); (case aO => exact (kr HO_3)); (case aS => exact (bsz0 HB)); (case aL => have := LMc8.out; omega); intro v368 w9 ho hb hg hat; rw [← Ny367.out] at ho; have n0_ := asd (hb); have n1_ := asd (ho); clear HB; clear HO_3; have HB := n0_; have HO369 := n1_; clear n0_ n1_; clear ho hb hg hat))
      rotate_left
      go_wp2
      rotate_left
      go_wp2
      rotate_left
      all_goals
       go_roundg k2
       case measure => have := HK1.out; have := HK2.out; omega
      ·case rel => exact ⟨(y367), (wrap64 (x13_2 + 1)), (by first | rfl | (simp; done) | (simp [*]; done)), H', ⟨by have := HK1.out; have := HK2.out; omega⟩, ⟨by (with_reducible repeat (first | apply Kd.R_alloc | apply Kd.R_drewN | apply Kd.R_drew)); exact HO369.out⟩, ⟨bbw0 HB⟩⟩
      ·case rel => exact ⟨(x3_2), (wrap64 (x13_2 + 1)), (by first | rfl | (simp; done) | (simp [*]; done)), H', ⟨by have := HK1.out; have := HK2.out; omega⟩, ⟨by (with_reducible repeat (first | apply Kd.R_alloc | apply Kd.R_drewN | apply Kd.R_drew)); exact HO_3.out⟩, ⟨bbw0 HB⟩⟩
      ·case rel => exact ⟨(x3_2), (wrap64 (x4_1 + 1)), (by first | rfl | (simp; done) | (simp [*]; done)), H', ⟨by have := HK1.out; have := HK2.out; omega⟩, ⟨by (with_reducible repeat (first | apply Kd.R_alloc | apply Kd.R_drewN | apply Kd.R_drew)); exact HO_3.out⟩, ⟨bbw0 HB⟩⟩
   ·rw [if_neg c4] at H
    have c4b0 := decide_eq_false c4
    clear c4
    obtain rfl := Option.some.inj H
    go_wp2
    go_ret
    exact ⟨_, by first | rfl | (simp [errW_none, errW_some] <;> rfl) | (simp [*, errW_none, errW_some] <;> rfl), by (with_reducible repeat (first | apply Kd.R_alloc | apply Kd.R_drewN | apply Kd.R_drew)); exact HO_3.out, bbw0 HB⟩
/-! ### impl_mod: function 66 -/
def impl_mod.f (a0 : Int) (a1 : Int) : Option (Int) := if a1 = 0 then (none) else (some (Int.tmod (wrap64 ((Int.tmod a0 a1) + a1)) a1))
set_option maxHeartbeats 8000000 in
set_option maxRecDepth 100000 in
theorem impl_mod.calls (a0 : Int) (a1 : Int) (r : Int) (w : World) (h : impl_mod.f a0 a1 = some r) :
  Calls Try.prog 66 #[.int .i64 a0, .int .i64 a1] w fun e w' => e = .returned (.int .i64 r) ∧ Drawn0 w w' := by
 have H : (if a1 = 0 then (none) else (some (Int.tmod (wrap64 ((Int.tmod a0 a1) + a1)) a1))) = some r := h
 clear h
 by_cases c3 : a1 = 0
 ·rw [if_pos c3] at H
  exact absurd H (by simp)
 ·rw [if_neg c3] at H
  have c3b0 : (a1 == 0) = false := beq_eq_false_iff_ne.mpr c3
  have c3b1 : (a1 != 0) = true := bne_iff_ne.mpr c3
  obtain rfl := Option.some.inj H
  go_enter Try.func66, Try.ntmps66
  go_wp2
  go_ret
  exact ⟨by first | rfl | (simp; done) | (simp [*]; done), by repeat (first | exact Drawn0.refl _ | apply Drawn0.step)⟩

attribute [local go_sem high] eqA43
/-! ### impl_Lattice_reduce: function 57 -/
def impl_Lattice_reduce.f (a0_0 : Int) (a0_1 : Int) (a0_2 : Int) (a1_0 : Int) (a1_1 : Int) : Option (Int × Int) := (impl_mod.f a1_1 a0_2).bind fun t373 => (if a0_2 = 0 then (none) else ((impl_mod.f (wrap64 (a1_0 - (wrap64 ((wrap64 (Int.tdiv (wrap64 (a1_1 - t373)) a0_2)) * a0_1)))) a0_0).bind fun t374 => (some (t374, t373))))
def impl_Lattice_reduce.T2 : Bool × List (List Nat × List Nat) := (true, [([], []), ([0], [0]), ([], []), ([2], [2]), ([], []), ([3, 4], [3, 4]), ([], []), ([6], [6]), ([5, 7], [5, 7]), ([], []), ([9], [9]), ([8, 10], [8, 10]), ([1, 11], [1, 11]), ([], []), ([13], [13]), ([12, 14], [12, 14]), ([], []), ([15, 16], [15, 16]), ([17, 15, 0, 1, 2, 3, 4, 5, 6, 7, 8, 9, 10, 11, 12, 13, 14, 15, 16, 17], [17])])
def impl_Lattice_reduce.B2 : List Nat := [0, 1, 0, 4, 0, 28, 0, 64, 252, 0, 512, 2044, 4095, 0, 8192, 32767, 0, 131071, 262143]
theorem impl_Lattice_reduce.tab2 : rtab .any (opsOf Try.f57 2) = impl_Lattice_reduce.T2 := by kernel_rfl
theorem impl_Lattice_reduce.bits2 : waitsOk impl_Lattice_reduce.T2.2 impl_Lattice_reduce.B2 = true := by kernel_rfl
set_option maxHeartbeats 8000000 in
set_option maxRecDepth 100000 in
theorem impl_Lattice_reduce.calls (a0_0 : Int) (a0_1 : Int) (a0_2 : Int) (a1_0 : Int) (a1_1 : Int) (r1 : Int) (r2 : Int) (w : World) (h : impl_Lattice_reduce.f a0_0 a0_1 a0_2 a1_0 a1_1 = some (r1, r2)) :
  Calls Try.prog 57 #[.agg #[.int .i64 a0_0, .int .i64 a0_1, .int .i64 a0_2], .agg #[.int .i64 a1_0, .int .i64 a1_1]] w fun e w' => e = .returned (.agg #[.int .i64 r1, .int .i64 r2]) ∧ Below w.heap.size w w' := by
 have hu33 := Try.underlying33
 have hu43 := Try.underlying43
 have HB := asd (Below.refl w.heap.size w)
 have H : ((impl_mod.f a1_1 a0_2).bind fun t373 => (if a0_2 = 0 then (none) else ((impl_mod.f (wrap64 (a1_0 - (wrap64 ((wrap64 (Int.tdiv (wrap64 (a1_1 - t373)) a0_2)) * a0_1)))) a0_0).bind fun t374 => (some (t374, t373))))) = some (r1, r2) := h
 clear h
 obtain ⟨t373, A3, H⟩ := ob H
 try dsimp only at H
 by_cases c4 : a0_2 = 0
 ·rw [if_pos c4] at H
  exact absurd H (by simp)
 ·rw [if_neg c4] at H
  have c4b0 : (a0_2 == 0) = false := beq_eq_false_iff_ne.mpr c4
  have c4b1 : (a0_2 != 0) = true := bne_iff_ne.mpr c4
  obtain ⟨t374, A5, H⟩ := ob H
  try dsimp only at H
  simp only [Option.some.injEq, Prod.mk.injEq] at H
  obtain ⟨rfl, rfl⟩ := H
  go_enter Try.func57, Try.ntmps57
  try go_wp2_with (first | ((with_reducible refine gd 2 rfl ?_); refine bx #[.int .i64 a0_0, .int .i64 a0_1, .int .i64 a0_2] 33 ?_; intro gb370 hg w6 BK370 hb; have GE370 := ngw0 hg HB; replace HB := bS0 HB hb; clear hb hg) | ((with_reducible refine gd 3 rfl ?_); refine bx #[.int .i64 a1_0, .int .i64 a1_1] 43 ?_; intro gb371 hg w7 BK371 hb; have GE371 := ngw1 hg HB GE370; replace HB := bS1 HB GE370 hb; have NB370_371 := nlt hg BK370; have NB371_370 := nsy (nlt hg BK370); replace BK370 := bB BK370 hb; clear hb hg) | ((with_reducible refine gd 4 rfl ?_); refine bx #[.int .i64 0, .int .i64 0] 43 ?_; intro gb372 hg w8 BK372 hb; have GE372 := ngw2 hg HB GE370 GE371; replace HB := bS2 HB GE370 GE371 hb; have NB370_372 := nlt hg BK370; have NB372_370 := nsy (nlt hg BK370); replace BK370 := bB BK370 hb; have NB371_372 := nlt hg BK371; have NB372_371 := nsy (nlt hg BK371); replace BK371 := bB BK371 hb; clear hb hg; have hnb9 := NB371_370.out; have hnc9 := NB370_371.out; have hnb10 := NB371_372.out; have hnc10 := NB372_371.out; obtain ⟨hcz11_0, hcz11_1, hfz11_0, hfz11_1⟩ := bz2 BK371; have hnb12 := NB370_372.out; have hnc12 := NB372_370.out; obtain ⟨hcz13_0, hcz13_1, hcz13_2, hfz13_0, hfz13_1, hfz13_2⟩ := bz3 BK370) | ((with_reducible refine gate_callee (f := 66) rfl ?_); refine gl 10 Try.func66 #[.int .i64 a1_1, .int .i64 a0_2] ?_; (with_reducible refine (impl_mod.calls _ _ _ _ A3.out).mono ?_); rintro e w' ⟨rfl, ⟨nd, rfl⟩⟩; refine ⟨_, rfl, ?_⟩; (try (rw [drewN_self w8]; generalize hq_ : World.drewN w8 _ = w8; have n0_ : Aside0 (w8.heap[gb370]? = some (.cells #[.int .i64 a0_0, .int .i64 a0_1, .int .i64 a0_2] 33 (0, 0))) := ⟨by rw [← hq_]; exact (bkp BK370)⟩; have n1_ : Aside0 (w8.heap[gb371]? = some (.cells #[.int .i64 a1_0, .int .i64 a1_1] 43 (0, 0))) := ⟨by rw [← hq_]; exact (bkp BK371)⟩; have n2_ : Aside0 (w8.heap[gb372]? = some (.cells #[.int .i64 0, .int .i64 0] 43 (0, 0))) := ⟨by rw [← hq_]; exact (bkp BK372)⟩; have n3_ : Aside0 (Below w.heap.size w w8) := ⟨by rw [← hq_]; exact (bbw3 HB GE370 GE371 GE372)⟩; clear BK370 BK371 BK372 HB hq_; have BK370 := n0_; have BK371 := n1_; have BK372 := n2_; have HB := n3_; clear n0_ n1_ n2_ n3_))))
  replace BK370 := asd (blk_drew BK370.out)
  replace BK371 := asd (blk_drew BK371.out)
  replace BK372 := asd (blk_drew BK372.out)
  replace HB := asd (below_drew1 HB.out)
  refine sh 19 (cb2 BK371 (eb3 BK370)) (fun hHeld => ?_); refine with_tabW impl_Lattice_reduce.tab2 impl_Lattice_reduce.bits2 (fun HT_ HW_ => ?_)
  generalize w8.drew = w14 at BK370 BK371 BK372 HB hHeld ⊢
  refine pu 0 (some 11) (bT 19 1) HT_ ?_
  refine pu 2 (some 13) (bs 19 5) HT_ ?_
  refine pu 4 (some 15) (bs 19 21) HT_ ?_
  refine pu 6 (some 17) (bs 19 85) HT_ ?_
  refine pu 9 (some 20) (bs 19 597) HT_ ?_
  refine pu 13 (some 24) (bs 19 8789) HT_ ?_
  refine pu 16 (some 27) (bs 19 74325) HT_ ?_
  refine ta 1 (some 12) (bs 19 74327) HT_ HW_ hHeld ?_
  refine ta 3 (some 14) (bs 19 74335) HT_ HW_ hHeld ?_
  refine pu 5 (some 16) (bs 19 74367) HT_ ?_
  refine ta 7 (some 18) (bs 19 74495) HT_ HW_ hHeld ?_
  refine pu 8 (some 19) (bs 19 74751) HT_ ?_
  refine ta 10 (some 21) (bs 19 75775) HT_ HW_ hHeld ?_
  refine pu 11 (some 22) (bs 19 77823) HT_ ?_
  refine pu 12 (some 23) (bs 19 81919) HT_ ?_
  refine ta 14 (some 25) (bs 19 98303) HT_ HW_ hHeld ?_
  refine ro 15 (some 26) (bT 19 17) HT_ (fun K hK => ?_)
  refine gs Try.func66 #[.int .i64 (wrap64 (a1_0 - (wrap64 ((wrap64 (Int.tdiv (wrap64 (a1_1 - t373)) a0_2)) * a0_1)))), .int .i64 a0_0] ?_
  with_reducible refine (impl_mod.calls _ _ _ _ A5.out).mono ?_
  rintro e w' ⟨rfl, ⟨nd, rfl⟩⟩
  refine ⟨_, rfl, ?_⟩
  refine hK.out _ _ (cb2 BK371 (eb3 BK370)).out (fun hHeld => ?_)
  clear hK K
  refine norm_ (a' := ?_) ?_ ?_
  rotate_left
  ·show Act.put _ (some 26) _ = _
   simp only [Act.put, sA, sB, sC, i64_w, i32_w]
   rfl
  refine pu 17 (some 28) (bT 19 18) HT_ ?_
  refine ro 18 (none) (bT 19 19) HT_ (fun K hK => ?_)
  have hs15 : w14.cell? ⟨gb372, 0, none⟩ = some (.int .i64 0) := bcl BK372 0
  have hfs15 := blk_frozen BK372.out 0
  have hns15_0 := NB370_372.out
  have hns15_1 := NB371_372.out
  have hms15_0 := NB372_370.out
  have hms15_1 := NB372_371.out
  have hs16 : w14.cell? ⟨gb372, 1, none⟩ = some (.int .i64 0) := bcl BK372 1
  have hfs16 := blk_frozen BK372.out 1
  have hns16_0 := NB370_372.out
  have hns16_1 := NB371_372.out
  have hms16_0 := NB372_370.out
  have hms16_1 := NB372_371.out
  refine skip_ (w1 := ?_) (by rfl) rfl ?_ ?_
  rotate_left
  ·go_simp
   rfl
  refine hK.out _ _ ⟨(cf NB371_372 ((cf NB371_372 (hHeld.1)))), (cf NB371_372 ((cf NB371_372 (hHeld.2.1)))), (cf NB370_372 ((cf NB370_372 (hHeld.2.2.1)))), (cf NB370_372 ((cf NB370_372 (hHeld.2.2.2.1)))), (cf NB370_372 ((cf NB370_372 (hHeld.2.2.2.2))))⟩ (fun hHeld => ?_)
  clear hK K
  refine done_ (done_of HT_.out (by kernel_rfl)) ?_
  try go_wp2
  refine bodyPost_ret (results_cell_row rfl _ _ gb372 43 #[.int .i64 t374, .int .i64 t373] (0, 0) _ rfl (bq0 BK372) Try.underlying43 rfl (by kernel_rfl)) rfl ?_
  exact er (bbw3 HB GE370 GE371 GE372)
/-! ### impl_Lattice_has: function 45 -/
def impl_Lattice_has.f (a0_0 : Int) (a0_1 : Int) (a0_2 : Int) (a1_0 : Int) (a1_1 : Int) : Option (Bool) := (impl_Lattice_reduce.f a0_0 a0_1 a0_2 a1_0 a1_1).bind fun bt377 => (some (bt377.1 == 0 && (bt377.2 == 0)))
set_option maxHeartbeats 8000000 in
set_option maxRecDepth 100000 in
theorem impl_Lattice_has.calls (a0_0 : Int) (a0_1 : Int) (a0_2 : Int) (a1_0 : Int) (a1_1 : Int) (r : Bool) (w : World) (h : impl_Lattice_has.f a0_0 a0_1 a0_2 a1_0 a1_1 = some r) :
  Calls Try.prog 45 #[.agg #[.int .i64 a0_0, .int .i64 a0_1, .int .i64 a0_2], .agg #[.int .i64 a1_0, .int .i64 a1_1]] w fun e w' => e = .returned (.bool r) ∧ Below w.heap.size w w' := by
 have hu33 := Try.underlying33
 have hu43 := Try.underlying43
 have HB := asd (Below.refl w.heap.size w)
 have H : ((impl_Lattice_reduce.f a0_0 a0_1 a0_2 a1_0 a1_1).bind fun bt377 => (some (bt377.1 == 0 && (bt377.2 == 0)))) = some r := h
 clear h
 obtain ⟨⟨t377, t378⟩, A3, H⟩ := ob H
 try dsimp only at H
 obtain rfl := Option.some.inj H
 go_enter Try.func45, Try.ntmps45
 go_wp2_with (first | ((with_reducible refine gd 2 rfl ?_); refine bx #[.int .i64 a0_0, .int .i64 a0_1, .int .i64 a0_2] 33 ?_; intro gb375 hg w4 BK375 hb; have GE375 := ngw0 hg HB; replace HB := bS0 HB hb; clear hb hg) | ((with_reducible refine gd 3 rfl ?_); refine bx #[.int .i64 a1_0, .int .i64 a1_1] 43 ?_; intro gb376 hg w5 BK376 hb; have GE376 := ngw1 hg HB GE375; replace HB := bS1 HB GE375 hb; have NB375_376 := nlt hg BK375; have NB376_375 := nsy (nlt hg BK375); replace BK375 := bB BK375 hb; clear hb hg; have hnb6 := NB375_376.out; have hnc6 := NB376_375.out; obtain ⟨hcz7_0, hcz7_1, hcz7_2, hfz7_0, hfz7_1, hfz7_2⟩ := bz3 BK375; obtain ⟨hcz8_0, hcz8_1, hfz8_0, hfz8_1⟩ := bz2 BK376) | ((with_reducible refine gate_callee (f := 57) rfl ?_); refine gl 7 Try.func57 #[.agg #[.int .i64 a0_0, .int .i64 a0_1, .int .i64 a0_2], .agg #[.int .i64 a1_0, .int .i64 a1_1]] ?_; (with_reducible refine (impl_Lattice_reduce.calls _ _ _ _ _ _ _ _ A3.out).mono ?_); rintro e w9 ⟨rfl, hb⟩; refine ⟨_, rfl, ?_⟩; replace BK375 := bB BK375 hb; replace BK376 := bB BK376 hb; replace HB := bS2 HB GE375 GE376 hb; (try clear hb)))
 go_ret
 exact er (bbw2 HB GE375 GE376)
/-! ### impl_Lattice_basis: function 62 -/
def impl_Lattice_basis.f (a0_0 : Int) (a0_1 : Int) (a0_2 : Int) : Option (Int × Int × Int × Int) := some (a0_0, 0, a0_1, a0_2)
def impl_Lattice_basis.T1 : Bool × List (List Nat × List Nat) := (true, [([], []), ([0], [0]), ([1], [1]), ([], []), ([3], [3]), ([], []), ([5], [5]), ([4, 6], [4, 6]), ([2, 0, 1, 2], [2]), ([7, 8, 0, 1, 2, 3, 4, 5, 6, 7, 8], [7])])
def impl_Lattice_basis.B1 : List Nat := [0, 1, 3, 0, 8, 0, 32, 120, 7, 511]
theorem impl_Lattice_basis.tab1 : rtab .any (opsOf Try.f62 1) = impl_Lattice_basis.T1 := by kernel_rfl
theorem impl_Lattice_basis.bits1 : waitsOk impl_Lattice_basis.T1.2 impl_Lattice_basis.B1 = true := by kernel_rfl
set_option maxHeartbeats 8000000 in
set_option maxRecDepth 100000 in
theorem impl_Lattice_basis.calls (a0_0 : Int) (a0_1 : Int) (a0_2 : Int) (r1 : Int) (r2 : Int) (r3 : Int) (r4 : Int) (w : World) (h : impl_Lattice_basis.f a0_0 a0_1 a0_2 = some (r1, r2, r3, r4)) :
  Calls Try.prog 62 #[.agg #[.int .i64 a0_0, .int .i64 a0_1, .int .i64 a0_2]] w fun e w' => e = .returned (.tuple #[.agg #[.int .i64 r1, .int .i64 r2], .agg #[.int .i64 r3, .int .i64 r4]]) ∧ Below w.heap.size w w' := by
 have hu33 := Try.underlying33
 have hu43 := Try.underlying43
 have HB := asd (Below.refl w.heap.size w)
 have H : (some (a0_0, 0, a0_1, a0_2)) = some (r1, r2, r3, r4) := h
 clear h
 simp only [Option.some.injEq, Prod.mk.injEq] at H
 obtain ⟨rfl, rfl, rfl, rfl⟩ := H
 go_enter Try.func62, Try.ntmps62
 try go_wp2_with (first | ((with_reducible refine gd 1 rfl ?_); refine bx #[.int .i64 a0_0, .int .i64 a0_1, .int .i64 a0_2] 33 ?_; intro gb379 hg w2 BK379 hb; have GE379 := ngw0 hg HB; replace HB := bS0 HB hb; clear hb hg) | ((with_reducible refine gd 2 rfl ?_); refine bx #[.int .i64 0, .int .i64 0] 43 ?_; intro gb380 hg w3 BK380 hb; have GE380 := ngw1 hg HB GE379; replace HB := bS1 HB GE379 hb; have NB379_380 := nlt hg BK379; have NB380_379 := nsy (nlt hg BK379); replace BK379 := bB BK379 hb; clear hb hg) | ((with_reducible refine gd 3 rfl ?_); refine bx #[.int .i64 0, .int .i64 0] 43 ?_; intro gb381 hg w4 BK381 hb; have GE381 := ngw2 hg HB GE379 GE380; replace HB := bS2 HB GE379 GE380 hb; have NB379_381 := nlt hg BK379; have NB381_379 := nsy (nlt hg BK379); replace BK379 := bB BK379 hb; have NB380_381 := nlt hg BK380; have NB381_380 := nsy (nlt hg BK380); replace BK380 := bB BK380 hb; clear hb hg))
 replace BK379 := asd (blk_drew BK379.out)
 replace BK380 := asd (blk_drew BK380.out)
 replace BK381 := asd (blk_drew BK381.out)
 replace HB := asd (below_drew1 HB.out)
 refine sh 10 (eb3 BK379) (fun hHeld => ?_); refine with_tabW impl_Lattice_basis.tab1 impl_Lattice_basis.bits1 (fun HT_ HW_ => ?_)
 generalize w4.drew = w5 at BK379 BK380 BK381 HB hHeld ⊢
 refine pu 0 (some 4) (bT 10 1) HT_ ?_
 refine pu 3 (some 7) (bs 10 9) HT_ ?_
 refine pu 5 (some 9) (bs 10 41) HT_ ?_
 refine ta 1 (some 5) (bs 10 43) HT_ HW_ hHeld ?_
 refine pu 2 (some 6) (bs 10 47) HT_ ?_
 refine ta 4 (some 8) (bT 10 6) HT_ HW_ hHeld ?_
 refine ta 6 (some 10) (bT 10 7) HT_ HW_ hHeld ?_
 refine pu 7 (some 11) (bT 10 8) HT_ ?_
 refine ro 8 (none) (bT 10 9) HT_ (fun K hK => ?_)
 have hs6 : w5.cell? ⟨gb380, 0, none⟩ = some (.int .i64 0) := bcl BK380 0
 have hfs6 := blk_frozen BK380.out 0
 have hns6_0 := NB379_380.out
 have hns6_2 := NB381_380.out
 have hms6_0 := NB380_379.out
 have hms6_2 := NB380_381.out
 have hs7 : w5.cell? ⟨gb380, 1, none⟩ = some (.int .i64 0) := bcl BK380 1
 have hfs7 := blk_frozen BK380.out 1
 have hns7_0 := NB379_380.out
 have hns7_2 := NB381_380.out
 have hms7_0 := NB380_379.out
 have hms7_2 := NB380_381.out
 refine skip_ (w1 := ?_) (by rfl) rfl ?_ ?_
 rotate_left
 ·go_simp
  rfl
 refine hK.out _ _ ⟨(cf NB379_380 ((cf NB379_380 (hHeld.1)))), (cf NB379_380 ((cf NB379_380 (hHeld.2.1)))), (cf NB379_380 ((cf NB379_380 (hHeld.2.2))))⟩ (fun hHeld => ?_)
 clear hK K
 refine ro 9 (none) (bT 10 10) HT_ (fun K hK => ?_)
 have hs8 : w5.cell? ⟨gb381, 0, none⟩ = some (.int .i64 0) := bcl BK381 0
 have hfs8 := blk_frozen BK381.out 0
 have hns8_0 := NB379_381.out
 have hns8_1 := NB380_381.out
 have hms8_0 := NB381_379.out
 have hms8_1 := NB381_380.out
 have hs9 : w5.cell? ⟨gb381, 1, none⟩ = some (.int .i64 0) := bcl BK381 1
 have hfs9 := blk_frozen BK381.out 1
 have hns9_0 := NB379_381.out
 have hns9_1 := NB380_381.out
 have hms9_0 := NB381_379.out
 have hms9_1 := NB381_380.out
 refine skip_ (w1 := ?_) (by rfl) rfl ?_ ?_
 rotate_left
 ·go_simp
  rfl
 refine hK.out _ _ ⟨(cf NB379_381 ((cf NB379_381 (hHeld.1)))), (cf NB379_381 ((cf NB379_381 (hHeld.2.1)))), (cf NB379_381 ((cf NB379_381 (hHeld.2.2))))⟩ (fun hHeld => ?_)
 clear hK K
 refine done_ (done_of HT_.out (by kernel_rfl)) ?_
 try go_wp2
 refine bodyPost_ret (results_cc rfl _ _ gb380 gb381 43 43 #[.int .i64 a0_0, .int .i64 0] #[.int .i64 a0_1, .int .i64 a0_2] (0, 0) (0, 0) _ _ rfl (bq1 BK380 NB380_381) Try.underlying43 rfl (by kernel_rfl) rfl (bq1 BK381 NB381_380) Try.underlying43 rfl (by kernel_rfl)) rfl ?_
 exact er (bbw3 HB GE379 GE380 GE381)
/-! ### impl_Lattice_contains: function 49 -/
def impl_Lattice_contains.f (a0_0 : Int) (a0_1 : Int) (a0_2 : Int) (a1_0 : Int) (a1_1 : Int) (a1_2 : Int) : Option (Bool) := (impl_Lattice_basis.f a1_0 a1_1 a1_2).bind fun bt384 => ((impl_Lattice_has.f a0_0 a0_1 a0_2 bt384.1 bt384.2.1).bind fun t390 => (if t390 = true then ((impl_Lattice_has.f a0_0 a0_1 a0_2 bt384.2.2.1 bt384.2.2.2).bind fun t391 => (some t391)) else (some false)))
set_option maxHeartbeats 8000000 in
set_option maxRecDepth 100000 in
theorem impl_Lattice_contains.calls (a0_0 : Int) (a0_1 : Int) (a0_2 : Int) (a1_0 : Int) (a1_1 : Int) (a1_2 : Int) (r : Bool) (w : World) (h : impl_Lattice_contains.f a0_0 a0_1 a0_2 a1_0 a1_1 a1_2 = some r) :
  Calls Try.prog 49 #[.agg #[.int .i64 a0_0, .int .i64 a0_1, .int .i64 a0_2], .agg #[.int .i64 a1_0, .int .i64 a1_1, .int .i64 a1_2]] w fun e w' => e = .returned (.bool r) ∧ Below w.heap.size w w' := by
 have hu33 := Try.underlying33
 have hu43 := Try.underlying43
 have HB := asd (Below.refl w.heap.size w)
 have H : ((impl_Lattice_basis.f a1_0 a1_1 a1_2).bind fun bt384 => ((impl_Lattice_has.f a0_0 a0_1 a0_2 bt384.1 bt384.2.1).bind fun t390 => (if t390 = true then ((impl_Lattice_has.f a0_0 a0_1 a0_2 bt384.2.2.1 bt384.2.2.2).bind fun t391 => (some t391)) else (some false)))) = some r := h
 clear h
 obtain ⟨⟨t384, t385, t386, t387⟩, A3, H⟩ := ob H
 try dsimp only at H
 obtain ⟨t390, A4, H⟩ := ob H
 try dsimp only at H
 by_cases c5 : t390 = true
 ·subst c5
  replace H := ifT H
  obtain ⟨t391, A6, H⟩ := ob H
  try dsimp only at H
  obtain rfl := Option.some.inj H
  go_enter Try.func49, Try.ntmps49
  go_wp2_with (first | ((with_reducible refine gd 2 rfl ?_); refine bx #[.int .i64 a0_0, .int .i64 a0_1, .int .i64 a0_2] 33 ?_; intro gb382 hg w7 BK382 hb; have GE382 := ngw0 hg HB; replace HB := bS0 HB hb; clear hb hg) | ((with_reducible refine gd 3 rfl ?_); refine bx #[.int .i64 a1_0, .int .i64 a1_1, .int .i64 a1_2] 33 ?_; intro gb383 hg w8 BK383 hb; have GE383 := ngw1 hg HB GE382; replace HB := bS1 HB GE382 hb; have NB382_383 := nlt hg BK382; have NB383_382 := nsy (nlt hg BK382); replace BK382 := bB BK382 hb; clear hb hg; have hnb9 := NB383_382.out; have hnc9 := NB382_383.out; obtain ⟨hcz10_0, hcz10_1, hcz10_2, hfz10_0, hfz10_1, hfz10_2⟩ := bz3 BK383) | ((with_reducible refine gate_callee (f := 62) rfl ?_); refine gl 9 Try.func62 #[.agg #[.int .i64 a1_0, .int .i64 a1_1, .int .i64 a1_2]] ?_; (with_reducible refine (impl_Lattice_basis.calls _ _ _ _ _ _ _ _ A3.out).mono ?_); rintro e w11 ⟨rfl, hb⟩; refine ⟨_, rfl, ?_⟩; replace BK382 := bB BK382 hb; replace BK383 := bB BK383 hb; replace HB := bS2 HB GE382 GE383 hb; (try clear hb)) | ((with_reducible refine gd 5 rfl ?_); refine bx #[.int .i64 0, .int .i64 0] 43 ?_; intro gb388 hg w12 BK388 hb; have GE388 := ngw2 hg HB GE382 GE383; replace HB := bS2 HB GE382 GE383 hb; have NB382_388 := nlt hg BK382; have NB388_382 := nsy (nlt hg BK382); replace BK382 := bB BK382 hb; have NB383_388 := nlt hg BK383; have NB388_383 := nsy (nlt hg BK383); replace BK383 := bB BK383 hb; clear hb hg) | ((with_reducible refine gd 6 rfl ?_); refine bx #[.int .i64 0, .int .i64 0] 43 ?_; intro gb389 hg w13 BK389 hb; have GE389 := ngw3 hg HB GE382 GE383 GE388; replace HB := bS3 HB GE382 GE383 GE388 hb; have NB382_389 := nlt hg BK382; have NB389_382 := nsy (nlt hg BK382); replace BK382 := bB BK382 hb; have NB383_389 := nlt hg BK383; have NB389_383 := nsy (nlt hg BK383); replace BK383 := bB BK383 hb; have NB388_389 := nlt hg BK388; have NB389_388 := nsy (nlt hg BK388); replace BK388 := bB BK388 hb; clear hb hg; have hnb14 := NB388_382.out; have hnc14 := NB382_388.out; have hnb15 := NB388_383.out; have hnc15 := NB383_388.out; have hnb16 := NB388_389.out; have hnc16 := NB389_388.out; obtain ⟨hcz17_0, hcz17_1, hfz17_0, hfz17_1⟩ := bz2 BK388; have hnb18 := NB389_382.out; have hnc18 := NB382_389.out; have hnb19 := NB389_383.out; have hnc19 := NB383_389.out; obtain ⟨hcz20_0, hcz20_1, hfz20_0, hfz20_1⟩ := bz2 BK389; obtain ⟨hcz21_0, hcz21_1, hcz21_2, hfz21_0, hfz21_1, hfz21_2⟩ := bz3 BK382) | ((with_reducible refine gate_callee (f := 45) rfl ?_); refine gl 14 Try.func45 #[.agg #[.int .i64 a0_0, .int .i64 a0_1, .int .i64 a0_2], .agg #[.int .i64 t384, .int .i64 t385]] ?_; (with_reducible refine (impl_Lattice_has.calls _ _ _ _ _ _ _ A4.out).mono ?_); rintro e w22 ⟨rfl, hb⟩; refine ⟨_, rfl, ?_⟩; replace BK382 := asd (blk_below (g := gb382) (o := .cells #[.int .i64 a0_0, .int .i64 a0_1, .int .i64 a0_2] 33 (0, 0)) (bq2 BK382 NB382_389 NB382_388) hb); replace BK383 := asd (blk_below (g := gb383) (o := .cells #[.int .i64 a1_0, .int .i64 a1_1, .int .i64 a1_2] 33 (0, 0)) (bq2 BK383 NB383_389 NB383_388) hb); replace BK388 := asd (blk_below (g := gb388) (o := .cells #[.int .i64 t384, .int .i64 t385] 43 (0, 0)) (bq1 BK388 NB388_389) hb); replace BK389 := asd (blk_below (g := gb389) (o := .cells #[.int .i64 t386, .int .i64 t387] 43 (0, 0)) (bq1 BK389 NB389_388) hb); replace HB := bS4 HB GE382 GE383 GE388 GE389 hb; (try clear hb); obtain ⟨hcz23_0, hcz23_1, hcz23_2, hfz23_0, hfz23_1, hfz23_2⟩ := bz3 BK382; obtain ⟨hcz24_0, hcz24_1, hfz24_0, hfz24_1⟩ := bz2 BK389) | (go_at_call 45; (with_reducible refine (impl_Lattice_has.calls _ _ _ _ _ _ _ A6.out).mono ?_); rintro e w25 ⟨rfl, hb⟩; replace BK382 := bB BK382 hb; replace BK383 := bB BK383 hb; replace BK388 := bB BK388 hb; replace BK389 := bB BK389 hb; replace HB := bS4 HB GE382 GE383 GE388 GE389 hb; (try clear hb)))
  go_ret
  exact er (bbw4 HB GE382 GE383 GE388 GE389)
 ·replace c5 := Bool.eq_false_iff.mpr c5
  subst c5
  replace H := ifF H
  obtain rfl := Option.some.inj H
  go_enter Try.func49, Try.ntmps49
  go_wp2_with (first | ((with_reducible refine gd 2 rfl ?_); refine bx #[.int .i64 a0_0, .int .i64 a0_1, .int .i64 a0_2] 33 ?_; intro gb382 hg w26 BK382 hb; have GE382 := ngw0 hg HB; replace HB := bS0 HB hb; clear hb hg) | ((with_reducible refine gd 3 rfl ?_); refine bx #[.int .i64 a1_0, .int .i64 a1_1, .int .i64 a1_2] 33 ?_; intro gb383 hg w27 BK383 hb; have GE383 := ngw1 hg HB GE382; replace HB := bS1 HB GE382 hb; have NB382_383 := nlt hg BK382; have NB383_382 := nsy (nlt hg BK382); replace BK382 := bB BK382 hb; clear hb hg; have hnb28 := NB383_382.out; have hnc28 := NB382_383.out; obtain ⟨hcz29_0, hcz29_1, hcz29_2, hfz29_0, hfz29_1, hfz29_2⟩ := bz3 BK383) | ((with_reducible refine gate_callee (f := 62) rfl ?_); refine gl 9 Try.func62 #[.agg #[.int .i64 a1_0, .int .i64 a1_1, .int .i64 a1_2]] ?_; (with_reducible refine (impl_Lattice_basis.calls _ _ _ _ _ _ _ _ A3.out).mono ?_); rintro e w30 ⟨rfl, hb⟩; refine ⟨_, rfl, ?_⟩; replace BK382 := bB BK382 hb; replace BK383 := bB BK383 hb; replace HB := bS2 HB GE382 GE383 hb; (try clear hb)) | ((with_reducible refine gd 5 rfl ?_); refine bx #[.int .i64 0, .int .i64 0] 43 ?_; intro gb388 hg w31 BK388 hb; have GE388 := ngw2 hg HB GE382 GE383; replace HB := bS2 HB GE382 GE383 hb; have NB382_388 := nlt hg BK382; have NB388_382 := nsy (nlt hg BK382); replace BK382 := bB BK382 hb; have NB383_388 := nlt hg BK383; have NB388_383 := nsy (nlt hg BK383); replace BK383 := bB BK383 hb; clear hb hg) | ((with_reducible refine gd 6 rfl ?_); refine bx #[.int .i64 0, .int .i64 0] 43 ?_; intro gb389 hg w32 BK389 hb; have GE389 := ngw3 hg HB GE382 GE383 GE388; replace HB := bS3 HB GE382 GE383 GE388 hb; have NB382_389 := nlt hg BK382; have NB389_382 := nsy (nlt hg BK382); replace BK382 := bB BK382 hb; have NB383_389 := nlt hg BK383; have NB389_383 := nsy (nlt hg BK383); replace BK383 := bB BK383 hb; have NB388_389 := nlt hg BK388; have NB389_388 := nsy (nlt hg BK388); replace BK388 := bB BK388 hb; clear hb hg; have hnb33 := NB388_382.out; have hnc33 := NB382_388.out; have hnb34 := NB388_383.out; have hnc34 := NB383_388.out; have hnb35 := NB388_389.out; have hnc35 := NB389_388.out; obtain ⟨hcz36_0, hcz36_1, hfz36_0, hfz36_1⟩ := bz2 BK388; have hnb37 := NB389_382.out; have hnc37 := NB382_389.out; have hnb38 := NB389_383.out; have hnc38 := NB383_389.out; obtain ⟨hcz39_0, hcz39_1, hfz39_0, hfz39_1⟩ := bz2 BK389; obtain ⟨hcz40_0, hcz40_1, hcz40_2, hfz40_0, hfz40_1, hfz40_2⟩ := bz3 BK382) | ((with_reducible refine gate_callee (f := 45) rfl ?_); refine gl 14 Try.func45 #[.agg #[.int .i64 a0_0, .int .i64 a0_1, .int .i64 a0_2], .agg #[.int .i64 t384, .int .i64 t385]] ?_; (with_reducible refine (impl_Lattice_has.calls _ _ _ _ _ _ _ A4.out).mono ?_); rintro e w41 ⟨rfl, hb⟩; refine ⟨_, rfl, ?_⟩; replace BK382 := asd (blk_below (g := gb382) (o := .cells #[.int .i64 a0_0, .int .i64 a0_1, .int .i64 a0_2] 33 (0, 0)) (bq2 BK382 NB382_389 NB382_388) hb); replace BK383 := asd (blk_below (g := gb383) (o := .cells #[.int .i64 a1_0, .int .i64 a1_1, .int .i64 a1_2] 33 (0, 0)) (bq2 BK383 NB383_389 NB383_388) hb); replace BK388 := asd (blk_below (g := gb388) (o := .cells #[.int .i64 t384, .int .i64 t385] 43 (0, 0)) (bq1 BK388 NB388_389) hb); replace BK389 := asd (blk_below (g := gb389) (o := .cells #[.int .i64 t386, .int .i64 t387] 43 (0, 0)) (bq1 BK389 NB389_388) hb); replace HB := bS4 HB GE382 GE383 GE388 GE389 hb; (try clear hb)))
  go_ret
  exact er (bbw4 HB GE382 GE383 GE388 GE389)
/-! ### impl_countLean: function 36 -/
mutual
def impl_countLean.l0 : Nat → Int → Int → Int → Int → Int → Int → Option (Int)
 | 0, _, _, _, _, _, _ => none
 | k + 1, x1, x5, x6, x393000, x393001, x393002 => (impl_Lattice_index.f x393000 x393001 x393002).bind fun t395 => (if x6 < t395 then ((impl_Lattice_index.f x393000 x393001 x393002).bind fun t396 => (if x6 = 0 then (none) else (if (Int.tmod t396 x6) = 0 then ((impl_sublattices.f k x6).bind fun t397 => (impl_countLean.l1 k x1 x5 x6 t397 (t397.length : Int) 0 x393000 x393001 x393002)) else (impl_countLean.l0 k x1 x5 (wrap64 (x6 + 1)) x393000 x393001 x393002)))) else (some x5))
def impl_countLean.l1 : Nat → Int → Int → Int → List (S33) → Int → Int → Int → Int → Int → Option (Int)
 | 0, _, _, _, _, _, _, _, _, _ => none
 | k + 1, x1, x5, x6, x25, x26, x27, x393000, x393001, x393002 => if x27 < x26 then (if 0 ≤ x27 then (if x27 < (x25.length : Int) then ((impl_Lattice_contains.f ((rd_T33 x25 x27).f0) ((rd_T33 x25 x27).f1) ((rd_T33 x25 x27).f2) x393000 x393001 x393002).bind fun t402 => (if t402 = true then ((impl_countLean.f k ((rd_T33 x25 x27).f0) ((rd_T33 x25 x27).f1) ((rd_T33 x25 x27).f2) x1).bind fun t403 => (impl_countLean.l1 k x1 (wrap64 (x5 - t403)) x6 x25 x26 (wrap64 (x27 + 1)) x393000 x393001 x393002)) else (impl_countLean.l1 k x1 x5 x6 x25 x26 (wrap64 (x27 + 1)) x393000 x393001 x393002))) else (none)) else (none)) else (impl_countLean.l0 k x1 x5 (wrap64 (x6 + 1)) x393000 x393001 x393002)
def impl_countLean.f : Nat → Int → Int → Int → Int → Option (Int)
 | 0, _, _, _, _ => none
 | k + 1, a0_0, a0_1, a0_2, a1 => (impl_Lattice_index.f a0_0 a0_1 a0_2).bind fun t393 => ((impl_power.f k a1 t393 1000000000000).bind fun t394 => (impl_countLean.l0 k a1 t394 1 a0_0 a0_1 a0_2))
end
set_option maxHeartbeats 8000000 in
set_option maxRecDepth 100000 in
theorem impl_countLean.calls (k : Nat) : ∀ (a0_0 : Int) (a0_1 : Int) (a0_2 : Int) (a1 : Int) (r : Int) (w : World) (h : impl_countLean.f k a0_0 a0_1 a0_2 a1 = some r),
  Calls Try.prog 36 #[.agg #[.int .i64 a0_0, .int .i64 a0_1, .int .i64 a0_2], .int .i64 a1] w fun e w' => e = .returned (.int .i64 r) ∧ Below w.heap.size w w' := by
 induction k using Nat.strongRecOn with
 | _ k ih =>
 intro a0_0 a0_1 a0_2 a1 r w h
 cases k with
 | zero => exact absurd h (by simp [impl_countLean.f])
 | succ k =>
 simp only [impl_countLean.f] at h
 have hu33 := Try.underlying33
 have HB := asd (Below.refl w.heap.size w)
 have H : ((impl_Lattice_index.f a0_0 a0_1 a0_2).bind fun t393 => ((impl_power.f k a1 t393 1000000000000).bind fun t394 => (impl_countLean.l0 k a1 t394 1 a0_0 a0_1 a0_2))) = some r := h
 clear h
 obtain ⟨t393, A3, H⟩ := ob H
 try dsimp only at H
 obtain ⟨t394, A4, H⟩ := ob H
 try dsimp only at H
 have H' := Aside0.mk H
 clear H
 go_enter Try.func36, Try.ntmps36
 go_wp2_with (first | ((with_reducible refine gd 2 rfl ?_); refine bx #[.int .i64 a0_0, .int .i64 a0_1, .int .i64 a0_2] 33 ?_; intro gb392 hg w5 BK392 hb; have GE392 := ngw0 hg HB; replace HB := bS0 HB hb; clear hb hg; obtain ⟨hcz6_0, hcz6_1, hcz6_2, hfz6_0, hfz6_1, hfz6_2⟩ := bz3 BK392) | ((with_reducible refine gate_callee (f := 40) rfl ?_); refine gl 11 Try.func40 #[.agg #[.int .i64 a0_0, .int .i64 a0_1, .int .i64 a0_2]] ?_; (with_reducible refine (impl_Lattice_index.calls _ _ _ _ _ A3.out).mono ?_); rintro e w7 ⟨rfl, hb⟩; refine ⟨_, rfl, ?_⟩; replace BK392 := bB BK392 hb; replace HB := bS1 HB GE392 hb; (try clear hb)) | ((with_reducible refine gate_callee (f := 39) rfl ?_); refine gl 12 Try.func39 #[.int .i64 a1, .int .i64 t393, .int .i64 1000000000000] ?_; (with_reducible refine (impl_power.calls _ _ _ _ _ _ A4.out).mono ?_); rintro e w' ⟨rfl, ⟨nd, rfl⟩⟩; refine ⟨_, rfl, ?_⟩))
 go_loopg [5, 6] k (fun kq v5 v6 w' => ∃ (x5_1 : Int) (x6_1 : Int), v5 = .int .i64 x5_1 ∧ v6 = .int .i64 x6_1 ∧ Aside0 (impl_countLean.l0 kq a1 x5_1 x6_1 a0_0 a0_1 a0_2 = some r) ∧ Aside0 (kq ≤ k) ∧ Aside0 (w'.heap[gb392]? = some (.cells #[.int .i64 a0_0, .int .i64 a0_1, .int .i64 a0_2] 33 (0, 0))) ∧ Aside0 (Below w.heap.size w w'))
 case atStart => exact ⟨(t394), (1), (by first | rfl | (simp; done) | (simp [*]; done)), (by first | rfl | (simp; done) | (simp [*]; done)), H', ⟨Nat.le_refl _⟩, ⟨bkp BK392⟩, ⟨bbw1 HB GE392⟩⟩
 case round =>
  clear H'
  try clear p2
  try clear c3
  try clear c4
  try clear hcz6_0
  try clear hcz6_1
  try clear hcz6_2
  try clear hfz6_0
  try clear hfz6_1
  try clear hfz6_2
  obtain ⟨x5_1, x6_1, rfl, rfl, HA, HK1, BK392, HB⟩ := hrel
  cases gk with
  | zero => exact absurd HA.out (by simp [impl_countLean.l0])
  | succ k1 =>
   have H := HA.out
   clear HA
   simp only [impl_countLean.l0] at H
   obtain ⟨t395, A8, H⟩ := ob H
   try dsimp only at H
   by_cases c9 : x6_1 < t395
   rw [if_pos c9] at H
   have c9b0 := decide_eq_true c9
   clear c9
   obtain ⟨t396, A10, H⟩ := ob H
   try dsimp only at H
   by_cases c11 : x6_1 = 0
   ·rw [if_pos c11] at H
    exact absurd H (by simp)
   rw [if_neg c11] at H
   have c11b0 : (x6_1 == 0) = false := beq_eq_false_iff_ne.mpr c11
   have c11b1 : (x6_1 != 0) = true := bne_iff_ne.mpr c11
   by_cases c12 : (Int.tmod t396 x6_1) = 0
   rw [if_pos c12] at H
   have c12b0 : ((Int.tmod t396 x6_1) == 0) = true := beq_iff_eq.mpr c12
   have c12b1 : ((Int.tmod t396 x6_1) != 0) = false := bne_eq_false_iff_eq.mpr c12
   clear c12
   obtain ⟨t397, A13, H⟩ := ob H
   try dsimp only at H
   have H' := Aside0.mk H
   clear H
   rotate_left
   rw [if_neg c12] at H
   have c12b0 : ((Int.tmod t396 x6_1) == 0) = false := beq_eq_false_iff_ne.mpr c12
   have c12b1 : ((Int.tmod t396 x6_1) != 0) = true := bne_iff_ne.mpr c12
   have H' := Aside0.mk H
   clear H
   rotate_left
   rw [if_neg c9] at H
   have c9b0 := decide_eq_false c9
   clear c9
   obtain rfl := Option.some.inj H
   rotate_left
   all_goals
    obtain ⟨hcz14_0, hcz14_1, hcz14_2, hfz14_0, hfz14_1, hfz14_2⟩ := bz3 BK392
   rotate_left 2
   ·go_wp2_with (first | ((with_reducible refine gate_callee (f := 40) rfl ?_); refine gl 15 Try.func40 #[.agg #[.int .i64 a0_0, .int .i64 a0_1, .int .i64 a0_2]] ?_; (with_reducible refine (impl_Lattice_index.calls _ _ _ _ _ A8.out).mono ?_); rintro e w43 ⟨rfl, hb⟩; refine ⟨_, rfl, ?_⟩; replace BK392 := bB BK392 hb; replace HB := bS1 HB GE392 hb; (try clear hb)))
    go_ret
    exact er (bbw1 HB GE392)
   all_goals
    go_wp2_with (first | ((with_reducible refine gate_callee (f := 40) rfl ?_); refine gl 15 Try.func40 #[.agg #[.int .i64 a0_0, .int .i64 a0_1, .int .i64 a0_2]] ?_; (with_reducible refine (impl_Lattice_index.calls _ _ _ _ _ A8.out).mono ?_); rintro e w15 ⟨rfl, hb⟩; refine ⟨_, rfl, ?_⟩; replace BK392 := bB BK392 hb; replace HB := bS1 HB GE392 hb; (try clear hb); obtain ⟨hcz16_0, hcz16_1, hcz16_2, hfz16_0, hfz16_1, hfz16_2⟩ := bz3 BK392) | ((with_reducible refine gate_callee (f := 40) rfl ?_); refine gl 20 Try.func40 #[.agg #[.int .i64 a0_0, .int .i64 a0_1, .int .i64 a0_2]] ?_; (with_reducible refine (impl_Lattice_index.calls _ _ _ _ _ A10.out).mono ?_); rintro e w17 ⟨rfl, hb⟩; refine ⟨_, rfl, ?_⟩; replace BK392 := bB BK392 hb; replace HB := bS1 HB GE392 hb; (try clear hb)) | ((with_reducible refine gate_callee (f := 43) rfl ?_); refine gl 25 Try.func43 #[.int .i64 x6_1] ?_; (with_reducible refine (impl_sublattices.calls _ _ _ _ A13.out).mono ?_); rintro e w18 ⟨v398, rfl, ho0, hb⟩; refine ⟨_, rfl, ?_⟩; have HO399 := asd (Kd.R_lower (Kd.R_newB ho0 (g := gb392) (o := .cells #[.int .i64 a0_0, .int .i64 a0_1, .int .i64 a0_2] 33 (0, 0)) (bkp BK392)) (bsz1 HB GE392)); replace BK392 := bB BK392 hb; replace HB := bS1 HB GE392 hb; (try clear hb); (try clear hb2); (try clear hk); (try clear hi); (try clear ho0); obtain ⟨Ao19, co19, eo19⟩ := Kd.R_slice HO399.out; subst eo19))
   ·go_loopg [5, 27] k1 (fun kq v5 v27 w' => ∃ (x5_2 : Int) (x27_2 : Int), v5 = .int .i64 x5_2 ∧ v27 = .int .i64 x27_2 ∧ Aside0 (impl_countLean.l1 kq a1 x5_2 x6_1 t397 (t397.length : Int) x27_2 a0_0 a0_1 a0_2 = some r) ∧ Aside0 (kq ≤ k1) ∧ Aside0 (Kd.R k33 33 w' w.heap.size (fun k_ => k_ ≠ gb392) (.slice Ao19 t397.length co19) t397) ∧ Aside0 (w'.heap[gb392]? = some (.cells #[.int .i64 a0_0, .int .i64 a0_1, .int .i64 a0_2] 33 (0, 0))) ∧ Aside0 (Below w.heap.size w w'))
    case atStart => exact ⟨(x5_1), (0), (by first | rfl | (simp; done) | (simp [*]; done)), (by first | rfl | (simp; done) | (simp [*]; done)), H', ⟨Nat.le_refl _⟩, ⟨by (with_reducible repeat (first | apply Kd.R_alloc | apply Kd.R_drewN | apply Kd.R_drew)); exact Kd.R_mono HO399.out (fun _ hk => hk.2)⟩, ⟨bkp BK392⟩, ⟨bbw1 HB GE392⟩⟩
    case round =>
     clear H'
     try clear c1
     try clear p2
     try clear c3
     try clear c4
     try clear p6
     try clear c9
     try clear c9b0
     try clear c11
     try clear c11b0
     try clear c11b1
     try clear c12
     try clear c12b0
     try clear c12b1
     try clear hcz14_0
     try clear hcz14_1
     try clear hcz14_2
     try clear hcz16_0
     try clear hcz16_1
     try clear hcz16_2
     try clear hcz6_0
     try clear hcz6_1
     try clear hcz6_2
     try clear hfz14_0
     try clear hfz14_1
     try clear hfz14_2
     try clear hfz16_0
     try clear hfz16_1
     try clear hfz16_2
     try clear hfz6_0
     try clear hfz6_1
     try clear hfz6_2
     try clear p2
     obtain ⟨x5_2, x27_2, rfl, rfl, HA, HK2, HO_25, BK392, HB⟩ := hrel
     cases gk with
     | zero => exact absurd HA.out (by simp [impl_countLean.l1])
     | succ k2 =>
      have H := HA.out
      clear HA
      simp only [impl_countLean.l1] at H
      by_cases c20 : x27_2 < (t397.length : Int)
      rw [if_pos c20] at H
      have c20b0 := decide_eq_true c20
      clear c20
      by_cases c21 : 0 ≤ x27_2
      rw [if_pos c21] at H
      have c21b0 := decide_eq_true c21
      clear c21
      by_cases c22 : x27_2 < (t397.length : Int)
      rw [if_pos c22] at H
      have c22b0 := decide_eq_true c22
      clear c22
      obtain ⟨t402, A23, H⟩ := ob H
      try dsimp only at H
      by_cases c24 : t402 = true
      subst c24
      replace H := ifT H
      obtain ⟨t403, A25, H⟩ := ob H
      try dsimp only at H
      have H' := Aside0.mk H
      clear H
      rotate_left
      replace c24 := Bool.eq_false_iff.mpr c24
      subst c24
      replace H := ifF H
      have H' := Aside0.mk H
      clear H
      rotate_left
      ·rw [if_neg c22] at H
       exact absurd H (by simp)
      ·rw [if_neg c21] at H
       exact absurd H (by simp)
      rw [if_neg c20] at H
      have c20b0 := decide_eq_false c20
      clear c20
      have H' := Aside0.mk H
      clear H
      rotate_left
      rotate_left 2
      ·go_wp2
       go_roundg k2
       case measure => have := HK1.out; have := HK2.out; omega
       case rel => exact ⟨(x5_2), (wrap64 (x6_1 + 1)), (by first | rfl | (simp; done) | (simp [*]; done)), (by first | rfl | (simp; done) | (simp [*]; done)), H', ⟨by have := HK1.out; have := HK2.out; omega⟩, ⟨bkp BK392⟩, ⟨bbw1 HB GE392⟩⟩
      all_goals
       have p400 : 0 ≤ (x27_2 : Int) := od
       have q400 : x27_2 < (t397.length : Int) := od
       obtain ⟨ad400, e400, hx400_0, hx400_1, hx400_2⟩ := at_T33 (Kd.R_reads' HO_25.out).2.2 x27_2 p400 q400
       cases e400
       replace p400 := eq_true p400
       replace q400 := eq_true q400
      go_wp2_with (first | ((with_reducible refine gd 8 rfl ?_); refine bx #[.int .i64 0, .int .i64 0, .int .i64 0] 33 ?_; intro gb401 hg w26 BK401 hb; replace HO_25 := asd (Kd.R_below (Kd.R_elderB (kr HO_25) gb401 (Nat.le_of_eq hg.symm)) hb); have GE401 := ngw1 hg HB GE392; replace HB := bS1 HB GE392 hb; have NB392_401 := nlt hg BK392; have NB401_392 := nsy (nlt hg BK392); replace BK392 := bB BK392 hb; clear hb hg; have hnb27 := NB401_392.out; have hnc27 := NB392_401.out; obtain ⟨hcz28_0, hcz28_1, hcz28_2, hfz28_0, hfz28_1, hfz28_2⟩ := bz3 BK401; obtain ⟨hcz29_0, hcz29_1, hcz29_2, hfz29_0, hfz29_1, hfz29_2⟩ := bz3 BK392) | ((with_reducible refine gate_callee (f := 49) rfl ?_); refine gl 33 Try.func49 #[.agg #[.int .i64 ((rd_T33 t397 x27_2).f0), .int .i64 ((rd_T33 t397 x27_2).f1), .int .i64 ((rd_T33 t397 x27_2).f2)], .agg #[.int .i64 a0_0, .int .i64 a0_1, .int .i64 a0_2]] ?_; (with_reducible refine (impl_Lattice_contains.calls _ _ _ _ _ _ _ _ A23.out).mono ?_); rintro e w30 ⟨rfl, hb⟩; refine ⟨_, rfl, ?_⟩; replace HO_25 := asd (Kd.R_below (by (with_reducible repeat (first | apply Kd.R_alloc | apply Kd.R_drewN | apply Kd.R_drew)); exact (Kd.R_mono (rw3 (Kd.R_mono HO_25.out (fun k_ hk => (⟨hk, hk.2⟩ : _ ∧ k_ ≠ gb401)))) (fun _ h_ => h_.1))) hb); replace BK392 := asd (blk_below (g := gb392) (o := .cells #[.int .i64 a0_0, .int .i64 a0_1, .int .i64 a0_2] 33 (0, 0)) (bq1 BK392 NB392_401) hb); replace BK401 := asd (blk_below (g := gb401) (o := .cells #[.int .i64 ((rd_T33 t397 x27_2).f0), .int .i64 ((rd_T33 t397 x27_2).f1), .int .i64 ((rd_T33 t397 x27_2).f2)] 33 (0, 0)) (bq0 BK401) hb); replace HB := bS2 HB GE392 GE401 hb; (try clear hb); obtain ⟨hcz31_0, hcz31_1, hcz31_2, hfz31_0, hfz31_1, hfz31_2⟩ := bz3 BK401) | ((with_reducible refine gate_callee (f := 36) rfl ?_); refine gl 37 Try.func36 #[.agg #[.int .i64 ((rd_T33 t397 x27_2).f0), .int .i64 ((rd_T33 t397 x27_2).f1), .int .i64 ((rd_T33 t397 x27_2).f2)], .int .i64 a1] ?_; (with_reducible refine (ih k2 (by have := HK1.out; have := HK2.out; omega) ((rd_T33 t397 x27_2).f0) ((rd_T33 t397 x27_2).f1) ((rd_T33 t397 x27_2).f2) a1 t403 _ A25.out).mono ?_); rintro e w32 ⟨rfl, hb⟩; refine ⟨_, rfl, ?_⟩; replace HO_25 := asd (Kd.R_below (kr HO_25) hb); replace BK392 := bB BK392 hb; replace BK401 := bB BK401 hb; replace HB := bS2 HB GE392 GE401 hb; (try clear hb)))
      rotate_left
      go_wp2_with (first | ((with_reducible refine gd 8 rfl ?_); refine bx #[.int .i64 0, .int .i64 0, .int .i64 0] 33 ?_; intro gb401 hg w33 BK401 hb; replace HO_25 := asd (Kd.R_below (Kd.R_elderB (kr HO_25) gb401 (Nat.le_of_eq hg.symm)) hb); have GE401 := ngw1 hg HB GE392; replace HB := bS1 HB GE392 hb; have NB392_401 := nlt hg BK392; have NB401_392 := nsy (nlt hg BK392); replace BK392 := bB BK392 hb; clear hb hg; have hnb34 := NB401_392.out; have hnc34 := NB392_401.out; obtain ⟨hcz35_0, hcz35_1, hcz35_2, hfz35_0, hfz35_1, hfz35_2⟩ := bz3 BK401; obtain ⟨hcz36_0, hcz36_1, hcz36_2, hfz36_0, hfz36_1, hfz36_2⟩ := bz3 BK392) | ((with_reducible refine gate_callee (f := 49) rfl ?_); refine gl 33 Try.func49 #[.agg #[.int .i64 ((rd_T33 t397 x27_2).f0), .int .i64 ((rd_T33 t397 x27_2).f1), .int .i64 ((rd_T33 t397 x27_2).f2)], .agg #[.int .i64 a0_0, .int .i64 a0_1, .int .i64 a0_2]] ?_; (with_reducible refine (impl_Lattice_contains.calls _ _ _ _ _ _ _ _ A23.out).mono ?_); rintro e w37 ⟨rfl, hb⟩; refine ⟨_, rfl, ?_⟩; replace HO_25 := asd (Kd.R_below (by (with_reducible repeat (first | apply Kd.R_alloc | apply Kd.R_drewN | apply Kd.R_drew)); exact (Kd.R_mono (rw3 (Kd.R_mono HO_25.out (fun k_ hk => (⟨hk, hk.2⟩ : _ ∧ k_ ≠ gb401)))) (fun _ h_ => h_.1))) hb); replace BK392 := asd (blk_below (g := gb392) (o := .cells #[.int .i64 a0_0, .int .i64 a0_1, .int .i64 a0_2] 33 (0, 0)) (bq1 BK392 NB392_401) hb); replace BK401 := asd (blk_below (g := gb401) (o := .cells #[.int .i64 ((rd_T33 t397 x27_2).f0), .int .i64 ((rd_T33 t397 x27_2).f1), .int .i64 ((rd_T33 t397 x27_2).f2)] 33 (0, 0)) (bq0 BK401) hb); replace HB := bS2 HB GE392 GE401 hb; (try clear hb)))
      rotate_left
      all_goals
       go_roundg k2
       case measure => have := HK1.out; have := HK2.out; omega
      ·case rel => exact ⟨(wrap64 (x5_2 - t403)), (wrap64 (x27_2 + 1)), (by first | rfl | (simp; done) | (simp [*]; done)), (by first | rfl | (simp; done) | (simp [*]; done)), H', ⟨by have := HK1.out; have := HK2.out; omega⟩, ⟨by (with_reducible repeat (first | apply Kd.R_alloc | apply Kd.R_drewN | apply Kd.R_drew)); exact Kd.R_mono HO_25.out (fun _ hk => hk.1)⟩, ⟨bkp BK392⟩, ⟨bbw2 HB GE392 GE401⟩⟩
      ·case rel => exact ⟨(x5_2), (wrap64 (x27_2 + 1)), (by first | rfl | (simp; done) | (simp [*]; done)), (by first | rfl | (simp; done) | (simp [*]; done)), H', ⟨by have := HK1.out; have := HK2.out; omega⟩, ⟨by (with_reducible repeat (first | apply Kd.R_alloc | apply Kd.R_drewN | apply Kd.R_drew)); exact Kd.R_mono HO_25.out (fun _ hk => hk.1)⟩, ⟨bkp BK392⟩, ⟨bbw2 HB GE392 GE401⟩⟩
   ·go_roundg k1
    case measure => have := HK1.out; omega
    case rel => exact ⟨(x5_1), (wrap64 (x6_1 + 1)), (by first | rfl | (simp; done) | (simp [*]; done)), (by first | rfl | (simp; done) | (simp [*]; done)), H', ⟨by have := HK1.out; omega⟩, ⟨bkp BK392⟩, ⟨bbw1 HB GE392⟩⟩
/-! ### impl_CountLean: function 20 -/
def impl_CountLean.f (k : Nat) (a0 : Int) (a1_0 : Int) (a1_1 : Int) (a1_2 : Int) (a2 : Int) : Option (Int × Int) := (impl_coloursCode.f k a0 a1_0 a1_1 a1_2 a2 1000000000000).bind fun t405 => (if t405 = 0 then ((impl_countLean.f k a1_0 a1_1 a1_2 a2).bind fun t406 => (some (t406, 0))) else (some (0, t405)))
set_option maxHeartbeats 8000000 in
set_option maxRecDepth 100000 in
theorem impl_CountLean.calls (k : Nat) (a0 : Int) (a1_0 : Int) (a1_1 : Int) (a1_2 : Int) (a2 : Int) (r1 : Int) (r2 : Int) (w : World) (h : impl_CountLean.f k a0 a1_0 a1_1 a1_2 a2 = some (r1, r2)) :
  Calls Try.prog 20 #[.int .i64 a0, .agg #[.int .i64 a1_0, .int .i64 a1_1, .int .i64 a1_2], .int .i64 a2] w fun e w' => e = .returned (.tuple #[.int .i64 r1, .int .i64 r2]) ∧ Below w.heap.size w w' := by
 have hu33 := Try.underlying33
 have HB := asd (Below.refl w.heap.size w)
 have H : ((impl_coloursCode.f k a0 a1_0 a1_1 a1_2 a2 1000000000000).bind fun t405 => (if t405 = 0 then ((impl_countLean.f k a1_0 a1_1 a1_2 a2).bind fun t406 => (some (t406, 0))) else (some (0, t405)))) = some (r1, r2) := h
 clear h
 obtain ⟨t405, A4, H⟩ := ob H
 try dsimp only at H
 by_cases c5 : t405 = 0
 ·rw [if_pos c5] at H
  have c5b0 : (t405 == 0) = true := beq_iff_eq.mpr c5
  have c5b1 : (t405 != 0) = false := bne_eq_false_iff_eq.mpr c5
  clear c5
  obtain ⟨t406, A6, H⟩ := ob H
  try dsimp only at H
  simp only [Option.some.injEq, Prod.mk.injEq] at H
  obtain ⟨rfl, rfl⟩ := H
  go_enter Try.func20, Try.ntmps20
  go_wp2_with (first | ((with_reducible refine gd 4 rfl ?_); refine bx #[.int .i64 a1_0, .int .i64 a1_1, .int .i64 a1_2] 33 ?_; intro gb404 hg w7 BK404 hb; have GE404 := ngw0 hg HB; replace HB := bS0 HB hb; clear hb hg; obtain ⟨hcz8_0, hcz8_1, hcz8_2, hfz8_0, hfz8_1, hfz8_2⟩ := bz3 BK404) | ((with_reducible refine gate_callee (f := 35) rfl ?_); refine gl 12 Try.func35 #[.int .i64 a0, .agg #[.int .i64 a1_0, .int .i64 a1_1, .int .i64 a1_2], .int .i64 a2, .int .i64 1000000000000] ?_; (with_reducible refine (impl_coloursCode.calls _ _ _ _ _ _ _ _ _ A4.out).mono ?_); rintro e w9 ⟨rfl, hb⟩; refine ⟨_, rfl, ?_⟩; replace BK404 := bB BK404 hb; replace HB := bS1 HB GE404 hb; (try clear hb); obtain ⟨hcz10_0, hcz10_1, hcz10_2, hfz10_0, hfz10_1, hfz10_2⟩ := bz3 BK404) | ((with_reducible refine gate_callee (f := 36) rfl ?_); refine gl 18 Try.func36 #[.agg #[.int .i64 a1_0, .int .i64 a1_1, .int .i64 a1_2], .int .i64 a2] ?_; (with_reducible refine (impl_countLean.calls _ _ _ _ _ _ _ A6.out).mono ?_); rintro e w11 ⟨rfl, hb⟩; refine ⟨_, rfl, ?_⟩; replace BK404 := bB BK404 hb; replace HB := bS1 HB GE404 hb; (try clear hb)))
  go_ret2
  exact er (bbw1 HB GE404)
 ·rw [if_neg c5] at H
  have c5b0 : (t405 == 0) = false := beq_eq_false_iff_ne.mpr c5
  have c5b1 : (t405 != 0) = true := bne_iff_ne.mpr c5
  simp only [Option.some.injEq, Prod.mk.injEq] at H
  obtain ⟨rfl, rfl⟩ := H
  go_enter Try.func20, Try.ntmps20
  go_wp2_with (first | ((with_reducible refine gd 4 rfl ?_); refine bx #[.int .i64 a1_0, .int .i64 a1_1, .int .i64 a1_2] 33 ?_; intro gb404 hg w12 BK404 hb; have GE404 := ngw0 hg HB; replace HB := bS0 HB hb; clear hb hg; obtain ⟨hcz13_0, hcz13_1, hcz13_2, hfz13_0, hfz13_1, hfz13_2⟩ := bz3 BK404) | ((with_reducible refine gate_callee (f := 35) rfl ?_); refine gl 12 Try.func35 #[.int .i64 a0, .agg #[.int .i64 a1_0, .int .i64 a1_1, .int .i64 a1_2], .int .i64 a2, .int .i64 1000000000000] ?_; (with_reducible refine (impl_coloursCode.calls _ _ _ _ _ _ _ _ _ A4.out).mono ?_); rintro e w14 ⟨rfl, hb⟩; refine ⟨_, rfl, ?_⟩; replace BK404 := bB BK404 hb; replace HB := bS1 HB GE404 hb; (try clear hb)))
  go_ret2
  exact er (bbw1 HB GE404)
/-! ### spec_l17Power: function 41 -/
def spec_l17Power.l0 : Nat → Int → Int → Int → Int → Option (Int)
 | 0, _, _, _, _ => none
 | k + 1, x0, x1, x2, x7 => if x1 > 0 then (if x7 ≤ x2 then (spec_l17Power.l0 k x0 (wrap64 (x1 - 1)) x2 (wrap64 (x7 * x0))) else (some x7)) else (some x7)
def spec_l17Power.f (k : Nat) (a0 : Int) (a1 : Int) (a2 : Int) : Option (Int) := spec_l17Power.l0 k a0 a1 a2 1
set_option maxHeartbeats 8000000 in
set_option maxRecDepth 100000 in
theorem spec_l17Power.calls (k : Nat) (a0 : Int) (a1 : Int) (a2 : Int) (r : Int) (w : World) (h : spec_l17Power.f k a0 a1 a2 = some r) :
  Calls Try.prog 41 #[.int .i64 a0, .int .i64 a1, .int .i64 a2] w fun e w' => e = .returned (.int .i64 r) ∧ Drawn0 w w' := by
 have H : (spec_l17Power.l0 k a0 a1 a2 1) = some r := h
 clear h
 have H' := Aside0.mk H
 clear H
 go_enter Try.func41, Try.ntmps41
 go_wp2
 go_loopg [1, 7] k (fun kq v1 v7 w' => ∃ (x1_1 : Int) (x7_1 : Int), v1 = .int .i64 x1_1 ∧ v7 = .int .i64 x7_1 ∧ Aside0 (spec_l17Power.l0 kq a0 x1_1 a2 x7_1 = some r) ∧ Aside0 (kq ≤ k) ∧ Drawn0 w w')
 case atStart => exact ⟨(a1), (1), (by first | rfl | (simp; done) | (simp [*]; done)), (by first | rfl | (simp; done) | (simp [*]; done)), H', ⟨Nat.le_refl _⟩, by repeat (first | exact Drawn0.refl _ | apply Drawn0.step)⟩
 case round =>
  clear H'
  try clear p2
  obtain ⟨x1_1, x7_1, rfl, rfl, HA, HK1, ⟨m1, rfl⟩⟩ := hrel
  cases gk with
  | zero => exact absurd HA.out (by simp [spec_l17Power.l0])
  | succ k1 =>
   have H := HA.out
   clear HA
   simp only [spec_l17Power.l0] at H
   by_cases c4 : x1_1 > 0
   ·rw [if_pos c4] at H
    have c4b0 : decide (0 < x1_1) = true := decide_eq_true c4
    clear c4
    by_cases c5 : x7_1 ≤ a2
    ·rw [if_pos c5] at H
     have c5b0 := decide_eq_true c5
     clear c5
     have H' := Aside0.mk H
     clear H
     go_wp2
     go_roundg k1
     case measure => have := HK1.out; omega
     case rel => exact ⟨(wrap64 (x1_1 - 1)), (wrap64 (x7_1 * a0)), (by first | rfl | (simp; done) | (simp [*]; done)), (by first | rfl | (simp; done) | (simp [*]; done)), H', ⟨by have := HK1.out; omega⟩, by repeat (first | exact Drawn0.refl _ | apply Drawn0.step)⟩
    ·rw [if_neg c5] at H
     have c5b0 := decide_eq_false c5
     clear c5
     obtain rfl := Option.some.inj H
     go_wp2
     go_ret
     exact ⟨by first | rfl | (simp; done) | (simp [*]; done), by repeat (first | exact Drawn0.refl _ | apply Drawn0.step)⟩
   ·rw [if_neg c4] at H
    have c4b0 : decide (0 < x1_1) = false := decide_eq_false c4
    clear c4
    obtain rfl := Option.some.inj H
    go_wp2
    go_ret
    exact ⟨by first | rfl | (simp; done) | (simp [*]; done), by repeat (first | exact Drawn0.refl _ | apply Drawn0.step)⟩
/-! ### spec_IsFrame: function 67 -/
def spec_IsFrame.f (a0 : Int) : Option (Bool) := if a0 = 0 then (some true) else (some (a0 == 1))
set_option maxHeartbeats 8000000 in
set_option maxRecDepth 100000 in
theorem spec_IsFrame.calls (a0 : Int) (r : Bool) (w : World) (h : spec_IsFrame.f a0 = some r) :
  Calls Try.prog 67 #[.int .i64 a0] w fun e w' => e = .returned (.bool r) ∧ Drawn0 w w' := by
 have H : (if a0 = 0 then (some true) else (some (a0 == 1))) = some r := h
 clear h
 by_cases c2 : a0 = 0
 ·rw [if_pos c2] at H
  have c2b0 : (a0 == 0) = true := beq_iff_eq.mpr c2
  have c2b1 : (a0 != 0) = false := bne_eq_false_iff_eq.mpr c2
  clear c2
  obtain rfl := Option.some.inj H
  go_enter Try.func67, Try.ntmps67
  go_wp2
  go_ret
  exact ⟨by first | rfl | (simp; done) | (simp [*]; done), by repeat (first | exact Drawn0.refl _ | apply Drawn0.step)⟩
 ·rw [if_neg c2] at H
  have c2b0 : (a0 == 0) = false := beq_eq_false_iff_ne.mpr c2
  have c2b1 : (a0 != 0) = true := bne_iff_ne.mpr c2
  obtain rfl := Option.some.inj H
  go_enter Try.func67, Try.ntmps67
  go_wp2
  go_ret
  exact ⟨by first | rfl | (simp; done) | (simp [*]; done), by repeat (first | exact Drawn0.refl _ | apply Drawn0.step)⟩
/-! ### spec_l01In: function 51 -/
def spec_l01In.f (a0 : Int) (a1 : Int) (a2 : Int) : Option (Bool) := if a0 ≥ a1 then (some (decide (a0 ≤ a2))) else (some false)
set_option maxHeartbeats 8000000 in
set_option maxRecDepth 100000 in
theorem spec_l01In.calls (a0 : Int) (a1 : Int) (a2 : Int) (r : Bool) (w : World) (h : spec_l01In.f a0 a1 a2 = some r) :
  Calls Try.prog 51 #[.int .i64 a0, .int .i64 a1, .int .i64 a2] w fun e w' => e = .returned (.bool r) ∧ Drawn0 w w' := by
 have H : (if a0 ≥ a1 then (some (decide (a0 ≤ a2))) else (some false)) = some r := h
 clear h
 by_cases c4 : a0 ≥ a1
 ·rw [if_pos c4] at H
  have c4b0 : decide (a1 ≤ a0) = true := decide_eq_true c4
  clear c4
  obtain rfl := Option.some.inj H
  go_enter Try.func51, Try.ntmps51
  go_wp2
  go_ret
  exact ⟨by first | rfl | (simp; done) | (simp [*]; done), by repeat (first | exact Drawn0.refl _ | apply Drawn0.step)⟩
 ·rw [if_neg c4] at H
  have c4b0 : decide (a1 ≤ a0) = false := decide_eq_false c4
  clear c4
  obtain rfl := Option.some.inj H
  go_enter Try.func51, Try.ntmps51
  go_wp2
  go_ret
  exact ⟨by first | rfl | (simp; done) | (simp [*]; done), by repeat (first | exact Drawn0.refl _ | apply Drawn0.step)⟩
/-! ### spec_IsLattice: function 68 -/
def spec_IsLattice.f (a0_0 : Int) (a0_1 : Int) (a0_2 : Int) : Option (Bool) := (spec_l01In.f a0_0 1 64).bind fun t408 => (if t408 = true then ((spec_l01In.f a0_2 1 64).bind fun t409 => (if t409 = true then ((spec_l01In.f a0_1 0 (wrap64 (a0_0 - 1))).bind fun t410 => (if t410 = true then (some (decide ((wrap64 (a0_0 * a0_2)) ≤ 64))) else (some false))) else (some false))) else (some false))
set_option maxHeartbeats 8000000 in
set_option maxRecDepth 100000 in
theorem spec_IsLattice.calls (a0_0 : Int) (a0_1 : Int) (a0_2 : Int) (r : Bool) (w : World) (h : spec_IsLattice.f a0_0 a0_1 a0_2 = some r) :
  Calls Try.prog 68 #[.agg #[.int .i64 a0_0, .int .i64 a0_1, .int .i64 a0_2]] w fun e w' => e = .returned (.bool r) ∧ Below w.heap.size w w' := by
 have hu33 := Try.underlying33
 have HB := asd (Below.refl w.heap.size w)
 have H : ((spec_l01In.f a0_0 1 64).bind fun t408 => (if t408 = true then ((spec_l01In.f a0_2 1 64).bind fun t409 => (if t409 = true then ((spec_l01In.f a0_1 0 (wrap64 (a0_0 - 1))).bind fun t410 => (if t410 = true then (some (decide ((wrap64 (a0_0 * a0_2)) ≤ 64))) else (some false))) else (some false))) else (some false))) = some r := h
 clear h
 obtain ⟨t408, A2, H⟩ := ob H
 try dsimp only at H
 by_cases c3 : t408 = true
 subst c3
 replace H := ifT H
 obtain ⟨t409, A4, H⟩ := ob H
 try dsimp only at H
 by_cases c5 : t409 = true
 subst c5
 replace H := ifT H
 obtain ⟨t410, A6, H⟩ := ob H
 try dsimp only at H
 by_cases c7 : t410 = true
 subst c7
 replace H := ifT H
 obtain rfl := Option.some.inj H
 rotate_left
 replace c7 := Bool.eq_false_iff.mpr c7
 subst c7
 replace H := ifF H
 obtain rfl := Option.some.inj H
 rotate_left
 replace c5 := Bool.eq_false_iff.mpr c5
 subst c5
 replace H := ifF H
 obtain rfl := Option.some.inj H
 rotate_left
 replace c3 := Bool.eq_false_iff.mpr c3
 subst c3
 replace H := ifF H
 obtain rfl := Option.some.inj H
 rotate_left
 all_goals
  go_enter Try.func68, Try.ntmps68
  go_wp2_with (first | ((with_reducible refine gd 1 rfl ?_); refine bx #[.int .i64 a0_0, .int .i64 a0_1, .int .i64 a0_2] 33 ?_; intro gb407 hg w8 BK407 hb; have GE407 := ngw0 hg HB; replace HB := bS0 HB hb; clear hb hg; obtain ⟨hcz9_0, hcz9_1, hcz9_2, hfz9_0, hfz9_1, hfz9_2⟩ := bz3 BK407) | ((with_reducible refine gate_callee (f := 51) rfl ?_); refine gl 5 Try.func51 #[.int .i64 a0_0, .int .i64 1, .int .i64 64] ?_; (with_reducible refine (spec_l01In.calls _ _ _ _ _ A2.out).mono ?_); rintro e w' ⟨rfl, ⟨nd, rfl⟩⟩; refine ⟨_, rfl, ?_⟩) | (go_at_call 51; (with_reducible refine (spec_l01In.calls _ _ _ _ _ A4.out).mono ?_); rintro e w' ⟨rfl, ⟨nd, rfl⟩⟩) | (go_at_call 51; (with_reducible refine (spec_l01In.calls _ _ _ _ _ A6.out).mono ?_); rintro e w' ⟨rfl, ⟨nd, rfl⟩⟩))
  go_ret
  exact er (bbw1 HB GE407)

end Go.Proofs.Ytfkdcngpjppnbaa.PA
