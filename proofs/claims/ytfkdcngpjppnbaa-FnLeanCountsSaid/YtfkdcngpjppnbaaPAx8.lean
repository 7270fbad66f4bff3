/- Walks written by program: each Go function that the law reaches comes to the plain function beside it. -/
import Derived.Test.YtfkdcngpjppnbaaPAx0
import Derived.Test.YtfkdcngpjppnbaaPAx2
import Derived.Test.YtfkdcngpjppnbaaPAx5
import Derived.Test.YtfkdcngpjppnbaaPAx6
import Derived.Test.YtfkdcngpjppnbaaPAx7
namespace Go.Proofs.Ytfkdcngpjppnbaa.PA
open Go.RowKit Go.Proofs.YtfkdcngpjppnbaaW.PrintWords Go.Proofs.YtfkdcngpjppnbaaW.PrintLast Go.Proofs.YtfkdcngpjppnbaaW.PrintMore
attribute [local go_sem] max2_int min2_int max_two min_two max_three min_three max_four min_four   -- for this text's walks alone
set_option linter.unusedVariables false
set_option linter.unusedSimpArgs false

/-! ### impl_CountPatterns: function 22 -/
def impl_CountPatterns.f (k : Nat) (a0 : Int) (a1_0 : Int) (a1_1 : Int) (a1_2 : Int) (a2 : Int) : Option (Int × Int) := (impl_coloursCode.f k a0 a1_0 a1_1 a1_2 a2 1000000000000).bind fun t463 => (if t463 = 0 then ((impl_Lattice_index.f a1_0 a1_1 a1_2).bind fun t464 => ((impl_power.f k a2 t464 1000000000000).bind fun t465 => (some (t465, 0)))) else (some (0, t463)))
set_option maxHeartbeats 8000000 in
set_option maxRecDepth 100000 in
theorem impl_CountPatterns.calls (k : Nat) (a0 : Int) (a1_0 : Int) (a1_1 : Int) (a1_2 : Int) (a2 : Int) (r1 : Int) (r2 : Int) (w : World) (h : impl_CountPatterns.f k a0 a1_0 a1_1 a1_2 a2 = some (r1, r2)) :
  Calls Try.prog 22 #[.int .i64 a0, .agg #[.int .i64 a1_0, .int .i64 a1_1, .int .i64 a1_2], .int .i64 a2] w fun e w' => e = .returned (.tuple #[.int .i64 r1, .int .i64 r2]) ∧ Below w.heap.size w w' := by
 have hu33 := Try.underlying33
 have HB := asd (Below.refl w.heap.size w)
 have H : ((impl_coloursCode.f k a0 a1_0 a1_1 a1_2 a2 1000000000000).bind fun t463 => (if t463 = 0 then ((impl_Lattice_index.f a1_0 a1_1 a1_2).bind fun t464 => ((impl_power.f k a2 t464 1000000000000).bind fun t465 => (some (t465, 0)))) else (some (0, t463)))) = some (r1, r2) := h
 clear h
 obtain ⟨t463, A4, H⟩ := ob H
 try dsimp only at H
 by_cases c5 : t463 = 0
 ·rw [if_pos c5] at H
  have c5b0 : (t463 == 0) = true := beq_iff_eq.mpr c5
  have c5b1 : (t463 != 0) = false := bne_eq_false_iff_eq.mpr c5
  clear c5
  obtain ⟨t464, A6, H⟩ := ob H
  try dsimp only at H
  obtain ⟨t465, A7, H⟩ := ob H
  try dsimp only at H
  simp only [Option.some.injEq, Prod.mk.injEq] at H
  obtain ⟨rfl, rfl⟩ := H
  go_enter Try.func22, Try.ntmps22
  go_wp2_with (first | ((with_reducible refine gd 4 rfl ?_); refine bx #[.int .i64 a1_0, .int .i64 a1_1, .int .i64 a1_2] 33 ?_; intro gb462 hg w8 BK462 hb; have GE462 := ngw0 hg HB; replace HB := bS0 HB hb; clear hb hg; obtain ⟨hcz9_0, hcz9_1, hcz9_2, hfz9_0, hfz9_1, hfz9_2⟩ := bz3 BK462) | ((with_reducible refine gate_callee (f := 35) rfl ?_); refine gl 12 Try.func35 #[.int .i64 a0, .agg #[.int .i64 a1_0, .int .i64 a1_1, .int .i64 a1_2], .int .i64 a2, .int .i64 1000000000000] ?_; (with_reducible refine (impl_coloursCode.calls _ _ _ _ _ _ _ _ _ A4.out).mono ?_); rintro e w10 ⟨rfl, hb⟩; refine ⟨_, rfl, ?_⟩; replace BK462 := bB BK462 hb; replace HB := bS1 HB GE462 hb; (try clear hb); obtain ⟨hcz11_0, hcz11_1, hcz11_2, hfz11_0, hfz11_1, hfz11_2⟩ := bz3 BK462) | ((with_reducible refine gate_callee (f := 40) rfl ?_); refine gl 18 Try.func40 #[.agg #[.int .i64 a1_0, .int .i64 a1_1, .int .i64 a1_2]] ?_; (with_reducible refine (impl_Lattice_index.calls _ _ _ _ _ A6.out).mono ?_); rintro e w12 ⟨rfl, hb⟩; refine ⟨_, rfl, ?_⟩; replace BK462 := bB BK462 hb; replace HB := bS1 HB GE462 hb; (try clear hb)) | ((with_reducible refine gate_callee (f := 39) rfl ?_); refine gl 19 Try.func39 #[.int .i64 a2, .int .i64 t464, .int .i64 1000000000000] ?_; (with_reducible refine (impl_power.calls _ _ _ _ _ _ A7.out).mono ?_); rintro e w' ⟨rfl, ⟨nd, rfl⟩⟩; refine ⟨_, rfl, ?_⟩))
  go_ret2
  exact er (bbw1 HB GE462)
 ·rw [if_neg c5] at H
  have c5b0 : (t463 == 0) = false := beq_eq_false_iff_ne.mpr c5
  have c5b1 : (t463 != 0) = true := bne_iff_ne.mpr c5
  simp only [Option.some.injEq, Prod.mk.injEq] at H
  obtain ⟨rfl, rfl⟩ := H
  go_enter Try.func22, Try.ntmps22
  go_wp2_with (first | ((with_reducible refine gd 4 rfl ?_); refine bx #[.int .i64 a1_0, .int .i64 a1_1, .int .i64 a1_2] 33 ?_; intro gb462 hg w13 BK462 hb; have GE462 := ngw0 hg HB; replace HB := bS0 HB hb; clear hb hg; obtain ⟨hcz14_0, hcz14_1, hcz14_2, hfz14_0, hfz14_1, hfz14_2⟩ := bz3 BK462) | ((with_reducible refine gate_callee (f := 35) rfl ?_); refine gl 12 Try.func35 #[.int .i64 a0, .agg #[.int .i64 a1_0, .int .i64 a1_1, .int .i64 a1_2], .int .i64 a2, .int .i64 1000000000000] ?_; (with_reducible refine (impl_coloursCode.calls _ _ _ _ _ _ _ _ _ A4.out).mono ?_); rintro e w15 ⟨rfl, hb⟩; refine ⟨_, rfl, ?_⟩; replace BK462 := bB BK462 hb; replace HB := bS1 HB GE462 hb; (try clear hb)))
  go_ret2
  exact er (bbw1 HB GE462)
/-! ### spec_CountPatterns: function 23 -/
def spec_CountPatterns.f (k : Nat) (a0 : Int) (a1_0 : Int) (a1_1 : Int) (a1_2 : Int) (a2 : Int) : Option (Int × Int) := (spec_l17Code.f k a0 a1_0 a1_1 a1_2 true a2 1000000000000).bind fun t467 => (if t467 = 0 then ((spec_l17Power.f k a2 (wrap64 (a1_0 * a1_2)) 1000000000000).bind fun t468 => (some (t468, 0))) else (some (0, t467)))
set_option maxHeartbeats 8000000 in
set_option maxRecDepth 100000 in
theorem spec_CountPatterns.calls (k : Nat) (a0 : Int) (a1_0 : Int) (a1_1 : Int) (a1_2 : Int) (a2 : Int) (r1 : Int) (r2 : Int) (w : World) (h : spec_CountPatterns.f k a0 a1_0 a1_1 a1_2 a2 = some (r1, r2)) :
  Calls Try.prog 23 #[.int .i64 a0, .agg #[.int .i64 a1_0, .int .i64 a1_1, .int .i64 a1_2], .int .i64 a2] w fun e w' => e = .returned (.tuple #[.int .i64 r1, .int .i64 r2]) ∧ Below w.heap.size w w' := by
 have hu33 := Try.underlying33
 have HB := asd (Below.refl w.heap.size w)
 have H : ((spec_l17Code.f k a0 a1_0 a1_1 a1_2 true a2 1000000000000).bind fun t467 => (if t467 = 0 then ((spec_l17Power.f k a2 (wrap64 (a1_0 * a1_2)) 1000000000000).bind fun t468 => (some (t468, 0))) else (some (0, t467)))) = some (r1, r2) := h
 clear h
 obtain ⟨t467, A4, H⟩ := ob H
 try dsimp only at H
 by_cases c5 : t467 = 0
 ·rw [if_pos c5] at H
  have c5b0 : (t467 == 0) = true := beq_iff_eq.mpr c5
  have c5b1 : (t467 != 0) = false := bne_eq_false_iff_eq.mpr c5
  clear c5
  obtain ⟨t468, A6, H⟩ := ob H
  try dsimp only at H
  simp only [Option.some.injEq, Prod.mk.injEq] at H
  obtain ⟨rfl, rfl⟩ := H
  go_enter Try.func23, Try.ntmps23
  go_wp2_with (first | ((with_reducible refine gd 4 rfl ?_); refine bx #[.int .i64 a1_0, .int .i64 a1_1, .int .i64 a1_2] 33 ?_; intro gb466 hg w7 BK466 hb; have GE466 := ngw0 hg HB; replace HB := bS0 HB hb; clear hb hg; obtain ⟨hcz8_0, hcz8_1, hcz8_2, hfz8_0, hfz8_1, hfz8_2⟩ := bz3 BK466) | ((with_reducible refine gate_callee (f := 37) rfl ?_); refine gl 12 Try.func37 #[.int .i64 a0, .agg #[.int .i64 a1_0, .int .i64 a1_1, .int .i64 a1_2], .bool true, .int .i64 a2, .int .i64 1000000000000] ?_; (with_reducible refine (spec_l17Code.calls _ _ _ _ _ _ _ _ _ _ A4.out).mono ?_); rintro e w9 ⟨rfl, hb⟩; refine ⟨_, rfl, ?_⟩; replace BK466 := bB BK466 hb; replace HB := bS1 HB GE466 hb; (try clear hb); obtain ⟨hcz10_0, hcz10_1, hcz10_2, hfz10_0, hfz10_1, hfz10_2⟩ := bz3 BK466) | ((with_reducible refine gate_callee (f := 41) rfl ?_); refine gl 22 Try.func41 #[.int .i64 a2, .int .i64 (wrap64 (a1_0 * a1_2)), .int .i64 1000000000000] ?_; (with_reducible refine (spec_l17Power.calls _ _ _ _ _ _ A6.out).mono ?_); rintro e w' ⟨rfl, ⟨nd, rfl⟩⟩; refine ⟨_, rfl, ?_⟩))
  go_ret2
  exact er (bbw1 HB GE466)
 ·rw [if_neg c5] at H
  have c5b0 : (t467 == 0) = false := beq_eq_false_iff_ne.mpr c5
  have c5b1 : (t467 != 0) = true := bne_iff_ne.mpr c5
  simp only [Option.some.injEq, Prod.mk.injEq] at H
  obtain ⟨rfl, rfl⟩ := H
  go_enter Try.func23, Try.ntmps23
  go_wp2_with (first | ((with_reducible refine gd 4 rfl ?_); refine bx #[.int .i64 a1_0, .int .i64 a1_1, .int .i64 a1_2] 33 ?_; intro gb466 hg w11 BK466 hb; have GE466 := ngw0 hg HB; replace HB := bS0 HB hb; clear hb hg; obtain ⟨hcz12_0, hcz12_1, hcz12_2, hfz12_0, hfz12_1, hfz12_2⟩ := bz3 BK466) | ((with_reducible refine gate_callee (f := 37) rfl ?_); refine gl 12 Try.func37 #[.int .i64 a0, .agg #[.int .i64 a1_0, .int .i64 a1_1, .int .i64 a1_2], .bool true, .int .i64 a2, .int .i64 1000000000000] ?_; (with_reducible refine (spec_l17Code.calls _ _ _ _ _ _ _ _ _ _ A4.out).mono ?_); rintro e w13 ⟨rfl, hb⟩; refine ⟨_, rfl, ?_⟩; replace BK466 := bB BK466 hb; replace HB := bS1 HB GE466 hb; (try clear hb)))
  go_ret2
  exact er (bbw1 HB GE466)
/-! ### impl_SublatticesOf: function 24 -/
def impl_SublatticesOf.f (k : Nat) (a0 : Int) : Option ((List (S33)) × Int) := (impl_within.f a0 1 64).bind fun t469 => (if t469 = true then ((impl_sublattices.f k a0).bind fun t470 => (some (t470, 0))) else (some (([] : List (S33)), 2)))
set_option maxHeartbeats 8000000 in
set_option maxRecDepth 100000 in
theorem impl_SublatticesOf.calls (k : Nat) (a0 : Int) (r1 : List (S33)) (r2 : Int) (w : World) (h : impl_SublatticesOf.f k a0 = some (r1, r2)) :
  Calls Try.prog 24 #[.int .i64 a0] w fun e w' => ∃ v0_ : Value, e = .returned (.tuple #[v0_, .int .i64 r2]) ∧ Kd.R k33 33 w' w.heap.size (fun _ => True) v0_ r1 ∧ Below w.heap.size w w' := by
 have HB := asd (Below.refl w.heap.size w)
 have H : ((impl_within.f a0 1 64).bind fun t469 => (if t469 = true then ((impl_sublattices.f k a0).bind fun t470 => (some (t470, 0))) else (some (([] : List (S33)), 2)))) = some (r1, r2) := h
 clear h
 obtain ⟨t469, A2, H⟩ := ob H
 try dsimp only at H
 by_cases c3 : t469 = true
 subst c3
 replace H := ifT H
 obtain ⟨t470, A4, H⟩ := ob H
 try dsimp only at H
 rotate_left
 replace c3 := Bool.eq_false_iff.mpr c3
 subst c3
 replace H := ifF H
 rotate_left
 all_goals
  simp only [Option.some.injEq, Prod.mk.injEq] at H
  obtain ⟨rfl, rfl⟩ := H
  go_enter Try.func24, Try.ntmps24
  go_wp2_with (first | ((with_reducible refine gate_callee (f := 42) rfl ?_); refine gl 5 Try.func42 #[.int .i64 a0, .int .i64 1, .int .i64 64] ?_; (with_reducible refine (impl_within.calls _ _ _ _ _ A2.out).mono ?_); rintro e w' ⟨rfl, ⟨nd, rfl⟩⟩; refine ⟨_, rfl, ?_⟩) | ((with_reducible refine gate_callee (f := 43) rfl ?_); refine gl 8 Try.func43 #[.int .i64 a0] ?_; (with_reducible refine (impl_sublattices.calls _ _ _ _ A4.out).mono ?_); rintro e w5 ⟨v471, rfl, ho0, hb⟩; refine ⟨_, rfl, ?_⟩; have HO472 := asd (Kd.R_lower ho0 (bsz0 HB)); replace HB := bS0 HB hb; (try clear hb); (try clear hb2); (try clear hk); (try clear hi); (try clear ho0)))
  go_ret2
 ·exact ⟨_, by first | rfl | (simp [errW_none, errW_some] <;> rfl) | (simp [*, errW_none, errW_some] <;> rfl), by (with_reducible repeat (first | apply Kd.R_alloc | apply Kd.R_drewN | apply Kd.R_drew)); exact HO472.out, bbw0 HB⟩
 ·exact ⟨_, by first | rfl | (simp [errW_none, errW_some] <;> rfl) | (simp [*, errW_none, errW_some] <;> rfl), by first | exact Kd.R_nil _ _ _ _ _ | exact Kd.N_nil _ _ _ _ _ | exact Kd.V_nil _ _ _ _ _ | exact Kd.Q_nil _ _ _ _ _ | exact Kd.S_nil _ _ _ _ _, bbw0 HB⟩
/-! ### impl_isCoordinate: function 65 -/
def impl_isCoordinate.f (a0 : Int) : Option (Bool) := (impl_within.f a0 (-1000) 1000).bind fun t473 => (some t473)
set_option maxHeartbeats 8000000 in
set_option maxRecDepth 100000 in
theorem impl_isCoordinate.calls (a0 : Int) (r : Bool) (w : World) (h : impl_isCoordinate.f a0 = some r) :
  Calls Try.prog 65 #[.int .i64 a0] w fun e w' => e = .returned (.bool r) ∧ Drawn0 w w' := by
 have H : ((impl_within.f a0 (-1000) 1000).bind fun t473 => (some t473)) = some r := h
 clear h
 obtain ⟨t473, A2, H⟩ := ob H
 try dsimp only at H
 obtain rfl := Option.some.inj H
 go_enter Try.func65, Try.ntmps65
 go_wp2_with (first | ((with_reducible refine gate_callee (f := 42) rfl ?_); refine gl 4 Try.func42 #[.int .i64 a0, .int .i64 (-1000), .int .i64 1000] ?_; (with_reducible refine (impl_within.calls _ _ _ _ _ A2.out).mono ?_); rintro e w' ⟨rfl, ⟨nd, rfl⟩⟩; refine ⟨_, rfl, ?_⟩))
 go_ret
 exact ⟨by first | rfl | (simp; done) | (simp [*]; done), by repeat (first | exact Drawn0.refl _ | apply Drawn0.step)⟩
/-! ### impl_IsVec: function 56 -/
def impl_IsVec.f (a0_0 : Int) (a0_1 : Int) : Option (Bool) := (impl_isCoordinate.f a0_0).bind fun t475 => (if t475 = true then ((impl_isCoordinate.f a0_1).bind fun t476 => (some t476)) else (some false))
set_option maxHeartbeats 8000000 in
set_option maxRecDepth 100000 in
theorem impl_IsVec.calls (a0_0 : Int) (a0_1 : Int) (r : Bool) (w : World) (h : impl_IsVec.f a0_0 a0_1 = some r) :
  Calls Try.prog 56 #[.agg #[.int .i64 a0_0, .int .i64 a0_1]] w fun e w' => e = .returned (.bool r) ∧ Below w.heap.size w w' := by
 have hu43 := Try.underlying43
 have HB := asd (Below.refl w.heap.size w)
 have H : ((impl_isCoordinate.f a0_0).bind fun t475 => (if t475 = true then ((impl_isCoordinate.f a0_1).bind fun t476 => (some t476)) else (some false))) = some r := h
 clear h
 obtain ⟨t475, A2, H⟩ := ob H
 try dsimp only at H
 by_cases c3 : t475 = true
 subst c3
 replace H := ifT H
 obtain ⟨t476, A4, H⟩ := ob H
 try dsimp only at H
 obtain rfl := Option.some.inj H
 rotate_left
 replace c3 := Bool.eq_false_iff.mpr c3
 subst c3
 replace H := ifF H
 obtain rfl := Option.some.inj H
 rotate_left
 all_goals
  go_enter Try.func56, Try.ntmps56
  go_wp2_with (first | ((with_reducible refine gd 1 rfl ?_); refine bx #[.int .i64 a0_0, .int .i64 a0_1] 43 ?_; intro gb474 hg w5 BK474 hb; have GE474 := ngw0 hg HB; replace HB := bS0 HB hb; clear hb hg; obtain ⟨hcz6_0, hcz6_1, hfz6_0, hfz6_1⟩ := bz2 BK474) | ((with_reducible refine gate_callee (f := 65) rfl ?_); refine gl 5 Try.func65 #[.int .i64 a0_0] ?_; (with_reducible refine (impl_isCoordinate.calls _ _ _ A2.out).mono ?_); rintro e w' ⟨rfl, ⟨nd, rfl⟩⟩; refine ⟨_, rfl, ?_⟩) | (go_at_call 65; (with_reducible refine (impl_isCoordinate.calls _ _ _ A4.out).mono ?_); rintro e w' ⟨rfl, ⟨nd, rfl⟩⟩))
  go_ret
  exact er (bbw1 HB GE474)
/-! ### impl_latticeVecCode: function 44 -/
def impl_latticeVecCode.f (a0_0 : Int) (a0_1 : Int) (a0_2 : Int) (a1_0 : Int) (a1_1 : Int) : Option (Int) := (impl_IsLattice.f a0_0 a0_1 a0_2).bind fun t479 => (if t479 = true then ((impl_IsVec.f a1_0 a1_1).bind fun t480 => (if t480 = true then (some 0) else (some 1))) else (some 1))
set_option maxHeartbeats 8000000 in
set_option maxRecDepth 100000 in
theorem impl_latticeVecCode.calls (a0_0 : Int) (a0_1 : Int) (a0_2 : Int) (a1_0 : Int) (a1_1 : Int) (r : Int) (w : World) (h : impl_latticeVecCode.f a0_0 a0_1 a0_2 a1_0 a1_1 = some r) :
  Calls Try.prog 44 #[.agg #[.int .i64 a0_0, .int .i64 a0_1, .int .i64 a0_2], .agg #[.int .i64 a1_0, .int .i64 a1_1]] w fun e w' => e = .returned (.int .i64 r) ∧ Below w.heap.size w w' := by
 have hu33 := Try.underlying33
 have hu43 := Try.underlying43
 have HB := asd (Below.refl w.heap.size w)
 have H : ((impl_IsLattice.f a0_0 a0_1 a0_2).bind fun t479 => (if t479 = true then ((impl_IsVec.f a1_0 a1_1).bind fun t480 => (if t480 = true then (some 0) else (some 1))) else (some 1))) = some r := h
 clear h
 obtain ⟨t479, A3, H⟩ := ob H
 try dsimp only at H
 by_cases c4 : t479 = true
 subst c4
 replace H := ifT H
 obtain ⟨t480, A5, H⟩ := ob H
 try dsimp only at H
 by_cases c6 : t480 = true
 subst c6
 replace H := ifT H
 obtain rfl := Option.some.inj H
 rotate_left
 replace c6 := Bool.eq_false_iff.mpr c6
 subst c6
 replace H := ifF H
 obtain rfl := Option.some.inj H
 rotate_left
 replace c4 := Bool.eq_false_iff.mpr c4
 subst c4
 replace H := ifF H
 obtain rfl := Option.some.inj H
 rotate_left
 all_goals
  go_enter Try.func44, Try.ntmps44
 rotate_left 2
 ·go_wp2_with (first | ((with_reducible refine gd 2 rfl ?_); refine bx #[.int .i64 a0_0, .int .i64 a0_1, .int .i64 a0_2] 33 ?_; intro gb477 hg w21 BK477 hb; have GE477 := ngw0 hg HB; replace HB := bS0 HB hb; clear hb hg) | ((with_reducible refine gd 3 rfl ?_); refine bx #[.int .i64 a1_0, .int .i64 a1_1] 43 ?_; intro gb478 hg w22 BK478 hb; have GE478 := ngw1 hg HB GE477; replace HB := bS1 HB GE477 hb; have NB477_478 := nlt hg BK477; have NB478_477 := nsy (nlt hg BK477); replace BK477 := bB BK477 hb; clear hb hg; have hnb23 := NB477_478.out; have hnc23 := NB478_477.out; obtain ⟨hcz24_0, hcz24_1, hcz24_2, hfz24_0, hfz24_1, hfz24_2⟩ := bz3 BK477) | ((with_reducible refine gate_callee (f := 55) rfl ?_); refine gl 6 Try.func55 #[.agg #[.int .i64 a0_0, .int .i64 a0_1, .int .i64 a0_2]] ?_; (with_reducible refine (impl_IsLattice.calls _ _ _ _ _ A3.out).mono ?_); rintro e w25 ⟨rfl, hb⟩; refine ⟨_, rfl, ?_⟩; replace BK477 := bB BK477 hb; replace BK478 := bB BK478 hb; replace HB := bS2 HB GE477 GE478 hb; (try clear hb)))
  go_ret
  exact er (bbw2 HB GE477 GE478)
 all_goals
  go_wp2_with (first | ((with_reducible refine gd 2 rfl ?_); refine bx #[.int .i64 a0_0, .int .i64 a0_1, .int .i64 a0_2] 33 ?_; intro gb477 hg w7 BK477 hb; have GE477 := ngw0 hg HB; replace HB := bS0 HB hb; clear hb hg) | ((with_reducible refine gd 3 rfl ?_); refine bx #[.int .i64 a1_0, .int .i64 a1_1] 43 ?_; intro gb478 hg w8 BK478 hb; have GE478 := ngw1 hg HB GE477; replace HB := bS1 HB GE477 hb; have NB477_478 := nlt hg BK477; have NB478_477 := nsy (nlt hg BK477); replace BK477 := bB BK477 hb; clear hb hg; have hnb9 := NB477_478.out; have hnc9 := NB478_477.out; obtain ⟨hcz10_0, hcz10_1, hcz10_2, hfz10_0, hfz10_1, hfz10_2⟩ := bz3 BK477) | ((with_reducible refine gate_callee (f := 55) rfl ?_); refine gl 6 Try.func55 #[.agg #[.int .i64 a0_0, .int .i64 a0_1, .int .i64 a0_2]] ?_; (with_reducible refine (impl_IsLattice.calls _ _ _ _ _ A3.out).mono ?_); rintro e w11 ⟨rfl, hb⟩; refine ⟨_, rfl, ?_⟩; replace BK477 := bB BK477 hb; replace BK478 := bB BK478 hb; replace HB := bS2 HB GE477 GE478 hb; (try clear hb); obtain ⟨hcz12_0, hcz12_1, hfz12_0, hfz12_1⟩ := bz2 BK478) | (go_at_call 56; (with_reducible refine (impl_IsVec.calls _ _ _ _ A5.out).mono ?_); rintro e w13 ⟨rfl, hb⟩; replace BK477 := bB BK477 hb; replace BK478 := bB BK478 hb; replace HB := bS2 HB GE477 GE478 hb; (try clear hb)))
  go_ret
  exact er (bbw2 HB GE477 GE478)
/-! ### impl_IsInLattice: function 25 -/
def impl_IsInLattice.f (a0_0 : Int) (a0_1 : Int) (a0_2 : Int) (a1_0 : Int) (a1_1 : Int) : Option (Bool × Int) := (impl_latticeVecCode.f a0_0 a0_1 a0_2 a1_0 a1_1).bind fun t483 => (if t483 = 0 then ((impl_Lattice_has.f a0_0 a0_1 a0_2 a1_0 a1_1).bind fun t484 => (some (t484, 0))) else (some (false, t483)))
set_option maxHeartbeats 8000000 in
set_option maxRecDepth 100000 in
theorem impl_IsInLattice.calls (a0_0 : Int) (a0_1 : Int) (a0_2 : Int) (a1_0 : Int) (a1_1 : Int) (r1 : Bool) (r2 : Int) (w : World) (h : impl_IsInLattice.f a0_0 a0_1 a0_2 a1_0 a1_1 = some (r1, r2)) :
  Calls Try.prog 25 #[.agg #[.int .i64 a0_0, .int .i64 a0_1, .int .i64 a0_2], .agg #[.int .i64 a1_0, .int .i64 a1_1]] w fun e w' => e = .returned (.tuple #[.bool r1, .int .i64 r2]) ∧ Below w.heap.size w w' := by
 have hu33 := Try.underlying33
 have hu43 := Try.underlying43
 have HB := asd (Below.refl w.heap.size w)
 have H : ((impl_latticeVecCode.f a0_0 a0_1 a0_2 a1_0 a1_1).bind fun t483 => (if t483 = 0 then ((impl_Lattice_has.f a0_0 a0_1 a0_2 a1_0 a1_1).bind fun t484 => (some (t484, 0))) else (some (false, t483)))) = some (r1, r2) := h
 clear h
 obtain ⟨t483, A3, H⟩ := ob H
 try dsimp only at H
 by_cases c4 : t483 = 0
 ·rw [if_pos c4] at H
  have c4b0 : (t483 == 0) = true := beq_iff_eq.mpr c4
  have c4b1 : (t483 != 0) = false := bne_eq_false_iff_eq.mpr c4
  clear c4
  obtain ⟨t484, A5, H⟩ := ob H
  try dsimp only at H
  simp only [Option.some.injEq, Prod.mk.injEq] at H
  obtain ⟨rfl, rfl⟩ := H
  go_enter Try.func25, Try.ntmps25
  go_wp2_with (first | ((with_reducible refine gd 2 rfl ?_); refine bx #[.int .i64 a0_0, .int .i64 a0_1, .int .i64 a0_2] 33 ?_; intro gb481 hg w6 BK481 hb; have GE481 := ngw0 hg HB; replace HB := bS0 HB hb; clear hb hg) | ((with_reducible refine gd 3 rfl ?_); refine bx #[.int .i64 a1_0, .int .i64 a1_1] 43 ?_; intro gb482 hg w7 BK482 hb; have GE482 := ngw1 hg HB GE481; replace HB := bS1 HB GE481 hb; have NB481_482 := nlt hg BK481; have NB482_481 := nsy (nlt hg BK481); replace BK481 := bB BK481 hb; clear hb hg; have hnb8 := NB481_482.out; have hnc8 := NB482_481.out; obtain ⟨hcz9_0, hcz9_1, hcz9_2, hfz9_0, hfz9_1, hfz9_2⟩ := bz3 BK481; obtain ⟨hcz10_0, hcz10_1, hfz10_0, hfz10_1⟩ := bz2 BK482) | ((with_reducible refine gate_callee (f := 44) rfl ?_); refine gl 9 Try.func44 #[.agg #[.int .i64 a0_0, .int .i64 a0_1, .int .i64 a0_2], .agg #[.int .i64 a1_0, .int .i64 a1_1]] ?_; (with_reducible refine (impl_latticeVecCode.calls _ _ _ _ _ _ _ A3.out).mono ?_); rintro e w11 ⟨rfl, hb⟩; refine ⟨_, rfl, ?_⟩; replace BK481 := bB BK481 hb; replace BK482 := bB BK482 hb; replace HB := bS2 HB GE481 GE482 hb; (try clear hb); obtain ⟨hcz12_0, hcz12_1, hcz12_2, hfz12_0, hfz12_1, hfz12_2⟩ := bz3 BK481; obtain ⟨hcz13_0, hcz13_1, hfz13_0, hfz13_1⟩ := bz2 BK482) | ((with_reducible refine gate_callee (f := 45) rfl ?_); refine gl 15 Try.func45 #[.agg #[.int .i64 a0_0, .int .i64 a0_1, .int .i64 a0_2], .agg #[.int .i64 a1_0, .int .i64 a1_1]] ?_; (with_reducible refine (impl_Lattice_has.calls _ _ _ _ _ _ _ A5.out).mono ?_); rintro e w14 ⟨rfl, hb⟩; refine ⟨_, rfl, ?_⟩; replace BK481 := bB BK481 hb; replace BK482 := bB BK482 hb; replace HB := bS2 HB GE481 GE482 hb; (try clear hb)))
  go_ret2
  exact er (bbw2 HB GE481 GE482)
 ·rw [if_neg c4] at H
  have c4b0 : (t483 == 0) = false := beq_eq_false_iff_ne.mpr c4
  have c4b1 : (t483 != 0) = true := bne_iff_ne.mpr c4
  simp only [Option.some.injEq, Prod.mk.injEq] at H
  obtain ⟨rfl, rfl⟩ := H
  go_enter Try.func25, Try.ntmps25
  go_wp2_with (first | ((with_reducible refine gd 2 rfl ?_); refine bx #[.int .i64 a0_0, .int .i64 a0_1, .int .i64 a0_2] 33 ?_; intro gb481 hg w15 BK481 hb; have GE481 := ngw0 hg HB; replace HB := bS0 HB hb; clear hb hg) | ((with_reducible refine gd 3 rfl ?_); refine bx #[.int .i64 a1_0, .int .i64 a1_1] 43 ?_; intro gb482 hg w16 BK482 hb; have GE482 := ngw1 hg HB GE481; replace HB := bS1 HB GE481 hb; have NB481_482 := nlt hg BK481; have NB482_481 := nsy (nlt hg BK481); replace BK481 := bB BK481 hb; clear hb hg; have hnb17 := NB481_482.out; have hnc17 := NB482_481.out; obtain ⟨hcz18_0, hcz18_1, hcz18_2, hfz18_0, hfz18_1, hfz18_2⟩ := bz3 BK481; obtain ⟨hcz19_0, hcz19_1, hfz19_0, hfz19_1⟩ := bz2 BK482) | ((with_reducible refine gate_callee (f := 44) rfl ?_); refine gl 9 Try.func44 #[.agg #[.int .i64 a0_0, .int .i64 a0_1, .int .i64 a0_2], .agg #[.int .i64 a1_0, .int .i64 a1_1]] ?_; (with_reducible refine (impl_latticeVecCode.calls _ _ _ _ _ _ _ A3.out).mono ?_); rintro e w20 ⟨rfl, hb⟩; refine ⟨_, rfl, ?_⟩; replace BK481 := bB BK481 hb; replace BK482 := bB BK482 hb; replace HB := bS2 HB GE481 GE482 hb; (try clear hb)))
  go_ret2
  exact er (bbw2 HB GE481 GE482)
/-! ### laws_FnLeanCounts: function 4 -/
mutual
def laws_FnLeanCounts.j0 : Nat → Int → Int → Int → Int → Bool → Int → Int → Int → Option (Bool)
 | 0, _, _, _, _, _, _, _, _ => none
 | k + 1, x3, x5, x7, x10, x83, x492000, x492001, x492002 => if x83 = true then (some false) else (if x7 = 0 then (laws_FnLeanCounts.j1 k x3 x5 x10 (decide ((wrap64 (x492000 * x492002)) > 16)) x492000 x492001 x492002) else (laws_FnLeanCounts.j1 k x3 x5 x10 true x492000 x492001 x492002))
def laws_FnLeanCounts.j1 : Nat → Int → Int → Int → Bool → Int → Int → Int → Option (Bool)
 | 0, _, _, _, _, _, _, _ => none
 | k + 1, x3, x5, x10, x93, x492000, x492001, x492002 => if x93 = true then (some true) else (laws_FnLeanCounts.l0 k x3 x5 x10 0 1 x492000 x492001 x492002)
def laws_FnLeanCounts.l0 : Nat → Int → Int → Int → Int → Int → Int → Int → Int → Option (Bool)
 | 0, _, _, _, _, _, _, _, _ => none
 | k + 1, x3, x5, x10, x14, x15, x492000, x492001, x492002 => if x15 ≤ (wrap64 (x492000 * x492002)) then ((impl_SublatticesOf.f k x15).bind fun bt500 => (if bt500.2 = 0 then (laws_FnLeanCounts.l1 k x3 x5 x10 x14 x15 bt500.1 0 x492000 x492001 x492002) else (some false))) else (some (x14 == x10))
def laws_FnLeanCounts.l1 : Nat → Int → Int → Int → Int → Int → List (S33) → Int → Int → Int → Int → Option (Bool)
 | 0, _, _, _, _, _, _, _, _, _, _ => none
 | k + 1, x3, x5, x10, x14, x15, x16, x18, x492000, x492001, x492002 => if x18 < (x16.length : Int) then (if 0 ≤ x18 then ((impl_IsInLattice.f ((rd_T33 x16 x18).f0) ((rd_T33 x16 x18).f1) ((rd_T33 x16 x18).f2) x492000 0).bind fun bt505 => ((impl_IsInLattice.f ((rd_T33 x16 x18).f0) ((rd_T33 x16 x18).f1) ((rd_T33 x16 x18).f2) x492001 x492002).bind fun bt508 => (if bt505.2 = 0 then (laws_FnLeanCounts.j4 k x3 x5 x10 x14 x15 x16 x18 bt505.1 bt508.1 (bt508.2 != 0) x492000 x492001 x492002) else (laws_FnLeanCounts.j4 k x3 x5 x10 x14 x15 x16 x18 bt505.1 bt508.1 true x492000 x492001 x492002)))) else (none)) else (laws_FnLeanCounts.l0 k x3 x5 x10 x14 (wrap64 (x15 + 1)) x492000 x492001 x492002)
def laws_FnLeanCounts.j4 : Nat → Int → Int → Int → Int → Int → List (S33) → Int → Bool → Bool → Bool → Int → Int → Int → Option (Bool)
 | 0, _, _, _, _, _, _, _, _, _, _, _, _, _ => none
 | k + 1, x3, x5, x10, x14, x15, x16, x18, x19, x21, x145, x492000, x492001, x492002 => if x145 = true then (some false) else (if x19 = true then (laws_FnLeanCounts.j5 k x3 x5 x10 x14 x15 x16 x18 x21 x492000 x492001 x492002) else (laws_FnLeanCounts.j5 k x3 x5 x10 x14 x15 x16 x18 false x492000 x492001 x492002))
def laws_FnLeanCounts.j5 : Nat → Int → Int → Int → Int → Int → List (S33) → Int → Bool → Int → Int → Int → Option (Bool)
 | 0, _, _, _, _, _, _, _, _, _, _, _ => none
 | k + 1, x3, x5, x10, x14, x15, x16, x18, x149, x492000, x492001, x492002 => if x149 = true then (if 0 ≤ x18 then (if x18 < (x16.length : Int) then ((impl_CountLean.f k x3 ((rd_T33 x16 x18).f0) ((rd_T33 x16 x18).f1) ((rd_T33 x16 x18).f2) x5).bind fun bt511 => (if bt511.2 = 0 then (laws_FnLeanCounts.l1 k x3 x5 x10 (wrap64 (x14 + bt511.1)) x15 x16 (wrap64 (x18 + 1)) x492000 x492001 x492002) else (some false))) else (none)) else (none)) else (laws_FnLeanCounts.l1 k x3 x5 x10 x14 x15 x16 (wrap64 (x18 + 1)) x492000 x492001 x492002)
end
def laws_FnLeanCounts.f (k : Nat) (l0 : List Int) : Option (Bool) := (laws_big.f l0).bind fun t485 => (if t485 = true then (some true) else ((spec_DrawCountLean.f k l0).bind fun bt486 => ((impl_CountLean.f k bt486.1 bt486.2.1 bt486.2.2.1 bt486.2.2.2.1 bt486.2.2.2.2).bind fun bt492 => ((spec_CountLean.f k bt486.1 bt486.2.1 bt486.2.2.1 bt486.2.2.2.1 bt486.2.2.2.2).bind fun bt494 => ((impl_CountPatterns.f k bt486.1 bt486.2.1 bt486.2.2.1 bt486.2.2.2.1 bt486.2.2.2.2).bind fun bt496 => ((spec_CountPatterns.f k bt486.1 bt486.2.1 bt486.2.2.1 bt486.2.2.2.1 bt486.2.2.2.2).bind fun bt498 => (if bt492.2 = bt494.2 then (if bt492.1 = bt494.1 then (if bt496.2 = bt498.2 then (if bt496.1 = bt498.1 then (laws_FnLeanCounts.j0 k bt486.1 bt486.2.2.2.2 bt492.2 bt496.1 (bt496.2 != bt492.2) bt486.2.1 bt486.2.2.1 bt486.2.2.2.1) else (laws_FnLeanCounts.j0 k bt486.1 bt486.2.2.2.2 bt492.2 bt496.1 true bt486.2.1 bt486.2.2.1 bt486.2.2.2.1)) else (laws_FnLeanCounts.j0 k bt486.1 bt486.2.2.2.2 bt492.2 bt496.1 true bt486.2.1 bt486.2.2.1 bt486.2.2.2.1)) else (laws_FnLeanCounts.j0 k bt486.1 bt486.2.2.2.2 bt492.2 bt496.1 true bt486.2.1 bt486.2.2.1 bt486.2.2.2.1)) else (laws_FnLeanCounts.j0 k bt486.1 bt486.2.2.2.2 bt492.2 bt496.1 true bt486.2.1 bt486.2.2.1 bt486.2.2.2.1))))))))
def laws_FnLeanCounts.T22 : Bool × List (List Nat × List Nat) := (true, [([], []), ([], []), ([0, 1], [0, 1]), ([2], [2]), ([], []), ([4], [4]), ([5], [5]), ([3, 6], [3, 6]), ([7], [7]), ([8], [8]), ([8], [8]), ([9, 7, 0, 1, 2, 3, 4, 5, 6, 7, 8, 9], [9]), ([10, 11, 0, 1, 2, 3, 4, 5, 6, 7, 8, 9, 10, 11], [10])])
def laws_FnLeanCounts.B22 : List Nat := [0, 0, 3, 7, 0, 16, 48, 127, 255, 511, 511, 1023, 4095]
theorem laws_FnLeanCounts.tab22 : rtab .any (opsOf Try.f4 22) = laws_FnLeanCounts.T22 := by kernel_rfl
theorem laws_FnLeanCounts.bits22 : waitsOk laws_FnLeanCounts.T22.2 laws_FnLeanCounts.B22 = true := by kernel_rfl
def laws_FnLeanCounts.T23 : Bool × List (List Nat × List Nat) := (true, [([], []), ([], []), ([0, 1], [0, 1]), ([2], [2]), ([], []), ([4], [4]), ([], []), ([6], [6]), ([5, 7], [5, 7]), ([3, 8], [3, 8]), ([9], [9]), ([10], [10]), ([10], [10]), ([11, 9, 0, 1, 2, 3, 4, 5, 6, 7, 8, 9, 10, 11], [11]), ([12, 13, 0, 1, 2, 3, 4, 5, 6, 7, 8, 9, 10, 11, 12, 13], [12])])
def laws_FnLeanCounts.B23 : List Nat := [0, 0, 3, 7, 0, 16, 0, 64, 240, 511, 1023, 2047, 2047, 4095, 16383]
theorem laws_FnLeanCounts.tab23 : rtab .any (opsOf Try.f4 23) = laws_FnLeanCounts.T23 := by kernel_rfl
theorem laws_FnLeanCounts.bits23 : waitsOk laws_FnLeanCounts.T23.2 laws_FnLeanCounts.B23 = true := by kernel_rfl
set_option maxHeartbeats 8000000 in
set_option maxRecDepth 100000 in
theorem laws_FnLeanCounts.calls (k : Nat) (A0 : Option Addr) (c0 : Nat) (l0 : List Int) (w : World) (hr0 : Kd.C (Kd.int .u8) w A0 l0.length l0) (hc0 : l0.length ≤ c0) (h : laws_FnLeanCounts.f k l0 = some true) :
  Calls Try.prog 4 #[.slice A0 l0.length c0] w fun e w' => e = .returned (.bool true) ∧ Below w.heap.size w w' := by
 have hu33 := Try.underlying33
 have hu43 := Try.underlying43
 have HR0 := Aside0.mk hr0
 have HC0 := Aside0.mk hc0
 clear hr0 hc0
 have HB := asd (Below.refl w.heap.size w)
 have H : ((laws_big.f l0).bind fun t485 => (if t485 = true then (some true) else ((spec_DrawCountLean.f k l0).bind fun bt486 => ((impl_CountLean.f k bt486.1 bt486.2.1 bt486.2.2.1 bt486.2.2.2.1 bt486.2.2.2.2).bind fun bt492 => ((spec_CountLean.f k bt486.1 bt486.2.1 bt486.2.2.1 bt486.2.2.2.1 bt486.2.2.2.2).bind fun bt494 => ((impl_CountPatterns.f k bt486.1 bt486.2.1 bt486.2.2.1 bt486.2.2.2.1 bt486.2.2.2.2).bind fun bt496 => ((spec_CountPatterns.f k bt486.1 bt486.2.1 bt486.2.2.1 bt486.2.2.2.1 bt486.2.2.2.2).bind fun bt498 => (if bt492.2 = bt494.2 then (if bt492.1 = bt494.1 then (if bt496.2 = bt498.2 then (if bt496.1 = bt498.1 then (laws_FnLeanCounts.j0 k bt486.1 bt486.2.2.2.2 bt492.2 bt496.1 (bt496.2 != bt492.2) bt486.2.1 bt486.2.2.1 bt486.2.2.2.1) else (laws_FnLeanCounts.j0 k bt486.1 bt486.2.2.2.2 bt492.2 bt496.1 true bt486.2.1 bt486.2.2.1 bt486.2.2.2.1)) else (laws_FnLeanCounts.j0 k bt486.1 bt486.2.2.2.2 bt492.2 bt496.1 true bt486.2.1 bt486.2.2.1 bt486.2.2.2.1)) else (laws_FnLeanCounts.j0 k bt486.1 bt486.2.2.2.2 bt492.2 bt496.1 true bt486.2.1 bt486.2.2.1 bt486.2.2.2.1)) else (laws_FnLeanCounts.j0 k bt486.1 bt486.2.2.2.2 bt492.2 bt496.1 true bt486.2.1 bt486.2.2.1 bt486.2.2.2.1))))))))) = some true := h
 clear h
 obtain ⟨t485, A2, H⟩ := ob H
 try dsimp only at H
 by_cases c3 : t485 = true
 ·subst c3
  replace H := ifT H
  clear H
  go_enter Try.func4, Try.ntmps4
  go_wp2_with (first | ((with_reducible refine gate_callee (f := 5) rfl ?_); refine gl 26 Try.func5 #[.slice A0 l0.length c0] ?_; (with_reducible refine (laws_big.calls _ _ _ _ _ ?side1 ?side2 A2.out).mono ?_); (case side1 => exact ks HR0.out); (case side2 => exact HC0.out); rintro e w' ⟨rfl, ⟨nd, rfl⟩⟩; refine ⟨_, rfl, ?_⟩))
  go_ret
  exact er (bbw0 HB)
 ·replace c3 := Bool.eq_false_iff.mpr c3
  subst c3
  replace H := ifF H
  obtain ⟨⟨t486, t487, t488, t489, t490⟩, A4, H⟩ := ob H
  try dsimp only at H
  obtain ⟨⟨t492, t493⟩, A5, H⟩ := ob H
  try dsimp only at H
  obtain ⟨⟨t494, t495⟩, A6, H⟩ := ob H
  try dsimp only at H
  obtain ⟨⟨t496, t497⟩, A7, H⟩ := ob H
  try dsimp only at H
  obtain ⟨⟨t498, t499⟩, A8, H⟩ := ob H
  try dsimp only at H
  have HC9 := Aside0.mk H
  clear H
  go_enter Try.func4, Try.ntmps4
  go_upto_region 8 with (first | ((with_reducible refine gate_callee (f := 5) rfl ?_); refine gl 26 Try.func5 #[.slice A0 l0.length c0] ?_; (with_reducible refine (laws_big.calls _ _ _ _ _ ?side1 ?side2 A2.out).mono ?_); (case side1 => exact ks HR0.out); (case side2 => exact HC0.out); rintro e w' ⟨rfl, ⟨nd, rfl⟩⟩; refine ⟨_, rfl, ?_⟩) | ((with_reducible refine gate_callee (f := 19) rfl ?_); refine gl 29 Try.func19 #[.slice A0 l0.length c0] ?_; (with_reducible refine (spec_DrawCountLean.calls _ _ _ _ _ _ _ _ _ _ ?side1 ?side2 A4.out).mono ?_); (case side1 => exact ks HR0.out); (case side2 => exact HC0.out); rintro e w10 ⟨rfl, hb⟩; refine ⟨_, rfl, ?_⟩; replace HB := bS0 HB hb; (try clear hb)) | ((with_reducible refine gd 4 rfl ?_); refine bx #[.int .i64 0, .int .i64 0, .int .i64 0] 33 ?_; intro gb491 hg w11 BK491 hb; have GE491 := ngw0 hg HB; replace HB := bS0 HB hb; clear hb hg; obtain ⟨hcz12_0, hcz12_1, hcz12_2, hfz12_0, hfz12_1, hfz12_2⟩ := bz3 BK491) | ((with_reducible refine gate_callee (f := 20) rfl ?_); refine gl 37 Try.func20 #[.int .i64 t486, .agg #[.int .i64 t487, .int .i64 t488, .int .i64 t489], .int .i64 t490] ?_; (with_reducible refine (impl_CountLean.calls _ _ _ _ _ _ _ _ _ A5.out).mono ?_); rintro e w13 ⟨rfl, hb⟩; refine ⟨_, rfl, ?_⟩; replace BK491 := asd (blk_below (g := gb491) (o := .cells #[.int .i64 t487, .int .i64 t488, .int .i64 t489] 33 (0, 0)) (bq0 BK491) hb); replace HB := bS1 HB GE491 hb; (try clear hb); obtain ⟨hcz14_0, hcz14_1, hcz14_2, hfz14_0, hfz14_1, hfz14_2⟩ := bz3 BK491) | ((with_reducible refine gate_callee (f := 21) rfl ?_); refine gl 44 Try.func21 #[.int .i64 t486, .agg #[.int .i64 t487, .int .i64 t488, .int .i64 t489], .int .i64 t490] ?_; (with_reducible refine (spec_CountLean.calls _ _ _ _ _ _ _ _ _ A6.out).mono ?_); rintro e w15 ⟨rfl, hb⟩; refine ⟨_, rfl, ?_⟩; replace BK491 := bB BK491 hb; replace HB := bS1 HB GE491 hb; (try clear hb); obtain ⟨hcz16_0, hcz16_1, hcz16_2, hfz16_0, hfz16_1, hfz16_2⟩ := bz3 BK491) | ((with_reducible refine gate_callee (f := 22) rfl ?_); refine gl 51 Try.func22 #[.int .i64 t486, .agg #[.int .i64 t487, .int .i64 t488, .int .i64 t489], .int .i64 t490] ?_; (with_reducible refine (impl_CountPatterns.calls _ _ _ _ _ _ _ _ _ A7.out).mono ?_); rintro e w17 ⟨rfl, hb⟩; refine ⟨_, rfl, ?_⟩; replace BK491 := bB BK491 hb; replace HB := bS1 HB GE491 hb; (try clear hb); obtain ⟨hcz18_0, hcz18_1, hcz18_2, hfz18_0, hfz18_1, hfz18_2⟩ := bz3 BK491) | ((with_reducible refine gate_callee (f := 23) rfl ?_); refine gl 58 Try.func23 #[.int .i64 t486, .agg #[.int .i64 t487, .int .i64 t488, .int .i64 t489], .int .i64 t490] ?_; (with_reducible refine (spec_CountPatterns.calls _ _ _ _ _ _ _ _ _ A8.out).mono ?_); rintro e w19 ⟨rfl, hb⟩; refine ⟨_, rfl, ?_⟩; replace BK491 := bB BK491 hb; replace HB := bS1 HB GE491 hb; (try clear hb)))
  (try simp only [Act.put, sA, sB, sC])
  go_cut [83] (fun v83 wc => ∃ (kq : Nat) (x83_8 : Bool), v83 = .bool x83_8 ∧ Aside0 (laws_FnLeanCounts.j0 kq t486 t490 t493 t496 x83_8 t487 t488 t489 = some true) ∧ Aside0 (kq ≤ k) ∧ Aside0 (wc.heap[gb491]? = some (.cells #[.int .i64 t487, .int .i64 t488, .int .i64 t489] 33 (0, 0))) ∧ Aside0 (Below w.heap.size w wc))
  case first =>
   have H := HC9.out
   clear HC9
   by_cases c20 : t493 = t495
   ·rw [if_pos c20] at H
    have c20b0 : (t493 == t495) = true := beq_iff_eq.mpr c20
    have c20b1 : (t493 != t495) = false := bne_eq_false_iff_eq.mpr c20
    clear c20
    (first | rw [c20b0] | (simp only [i64_w, i32_w]; rw [c20b0]) | skip)
    by_cases c21 : t492 = t494
    rw [if_pos c21] at H
    have c21b0 : (t492 == t494) = true := beq_iff_eq.mpr c21
    have c21b1 : (t492 != t494) = false := bne_eq_false_iff_eq.mpr c21
    clear c21
    by_cases c22 : t497 = t499
    rw [if_pos c22] at H
    have c22b0 : (t497 == t499) = true := beq_iff_eq.mpr c22
    have c22b1 : (t497 != t499) = false := bne_eq_false_iff_eq.mpr c22
    clear c22
    by_cases c23 : t496 = t498
    rw [if_pos c23] at H
    have c23b0 : (t496 == t498) = true := beq_iff_eq.mpr c23
    have c23b1 : (t496 != t498) = false := bne_eq_false_iff_eq.mpr c23
    clear c23
    have H' := Aside0.mk H
    clear H
    rotate_left
    rw [if_neg c23] at H
    have c23b0 : (t496 == t498) = false := beq_eq_false_iff_ne.mpr c23
    have c23b1 : (t496 != t498) = true := bne_iff_ne.mpr c23
    have H' := Aside0.mk H
    clear H
    rotate_left
    rw [if_neg c22] at H
    have c22b0 : (t497 == t499) = false := beq_eq_false_iff_ne.mpr c22
    have c22b1 : (t497 != t499) = true := bne_iff_ne.mpr c22
    have H' := Aside0.mk H
    clear H
    rotate_left
    rw [if_neg c21] at H
    have c21b0 : (t492 == t494) = false := beq_eq_false_iff_ne.mpr c21
    have c21b1 : (t492 != t494) = true := bne_iff_ne.mpr c21
    have H' := Aside0.mk H
    clear H
    rotate_left
    all_goals
     go_wp2
     go_meet
    ·case rel => exact ⟨_, ((t497 != t493)), (by first | rfl | (simp; done) | (simp [*]; done)), H', ⟨by first | omega | exact Nat.le_refl _⟩, ⟨bkp BK491⟩, ⟨bbw1 HB GE491⟩⟩
    rotate_left 3
    all_goals
     case rel => exact ⟨_, (true), (by first | rfl | (simp; done) | (simp [*]; done)), H', ⟨by first | omega | exact Nat.le_refl _⟩, ⟨bkp BK491⟩, ⟨bbw1 HB GE491⟩⟩
   ·rw [if_neg c20] at H
    have c20b0 : (t493 == t495) = false := beq_eq_false_iff_ne.mpr c20
    have c20b1 : (t493 != t495) = true := bne_iff_ne.mpr c20
    (first | rw [c20b0] | (simp only [i64_w, i32_w]; rw [c20b0]) | skip)
    have H' := Aside0.mk H
    clear H
    go_wp2
    go_meet
    case rel => exact ⟨_, (true), (by first | rfl | (simp; done) | (simp [*]; done)), H', ⟨by first | omega | exact Nat.le_refl _⟩, ⟨bkp BK491⟩, ⟨bbw1 HB GE491⟩⟩
  case rest =>
   clear HC9
   try clear c1
   try clear c2
   try clear p2
   try clear c3
   try clear c4
   try clear c5
   try clear c19
   try clear c20
   try clear c20b0
   try clear c20b1
   try clear c21
   try clear c21b0
   try clear c21b1
   try clear c22
   try clear c22b0
   try clear c22b1
   try clear c23
   try clear c23b0
   try clear c23b1
   try clear hcz12_0
   try clear hcz12_1
   try clear hcz12_2
   try clear hcz14_0
   try clear hcz14_1
   try clear hcz14_2
   try clear hcz16_0
   try clear hcz16_1
   try clear hcz16_2
   try clear hcz18_0
   try clear hcz18_1
   try clear hcz18_2
   try clear hfz12_0
   try clear hfz12_1
   try clear hfz12_2
   try clear hfz14_0
   try clear hfz14_1
   try clear hfz14_2
   try clear hfz16_0
   try clear hfz16_1
   try clear hfz16_2
   try clear hfz18_0
   try clear hfz18_1
   try clear hfz18_2
   obtain ⟨kq, x83_8, rfl, HA, HJ8, BK491, HB⟩ := hcut
   cases kq with
   | zero => exact absurd HA.out (by simp [laws_FnLeanCounts.j0])
   | succ kj8 =>
    have H := HA.out
    clear HA
    simp only [laws_FnLeanCounts.j0] at H
    by_cases c24 : x83_8 = true
    ·subst c24
     replace H := ifT H
     exact absurd H (by simp)
    ·replace c24 := Bool.eq_false_iff.mpr c24
     subst c24
     replace H := ifF H
     have HC25 := Aside0.mk H
     clear H
     go_upto_region 10 with (fail)
     go_cut [93] (fun v93 wc => ∃ (kq : Nat) (x93_24 : Bool), v93 = .bool x93_24 ∧ Aside0 (laws_FnLeanCounts.j1 kq t486 t490 t496 x93_24 t487 t488 t489 = some true) ∧ Aside0 (kq ≤ kj8) ∧ Aside0 (wc.heap[gb491]? = some (.cells #[.int .i64 t487, .int .i64 t488, .int .i64 t489] 33 (0, 0))) ∧ Aside0 (Below w.heap.size w wc))
     case first =>
      have H := HC25.out
      clear HC25
      by_cases c26 : t493 = 0
      ·rw [if_pos c26] at H
       have c26b0 : (t493 == 0) = true := beq_iff_eq.mpr c26
       have c26b1 : (t493 != 0) = false := bne_eq_false_iff_eq.mpr c26
       clear c26
       (first | rw [c26b0] | (simp only [i64_w, i32_w]; rw [c26b0]) | skip)
       have H' := Aside0.mk H
       clear H
       obtain ⟨hcz27_0, hcz27_1, hcz27_2, hfz27_0, hfz27_1, hfz27_2⟩ := bz3 BK491
       go_wp2
       go_meet
       case rel => exact ⟨_, (decide ((wrap64 (t487 * t489)) > 16)), (by first | rfl | (simp; done) | (simp [*]; done)), H', ⟨by have := HJ8.out; first | omega | exact Nat.le_refl _⟩, ⟨bkp BK491⟩, ⟨bbw1 HB GE491⟩⟩
      ·rw [if_neg c26] at H
       have c26b0 : (t493 == 0) = false := beq_eq_false_iff_ne.mpr c26
       have c26b1 : (t493 != 0) = true := bne_iff_ne.mpr c26
       (first | rw [c26b0] | (simp only [i64_w, i32_w]; rw [c26b0]) | skip)
       have H' := Aside0.mk H
       clear H
       go_wp2
       go_meet
       case rel => exact ⟨_, (true), (by first | rfl | (simp; done) | (simp [*]; done)), H', ⟨by have := HJ8.out; first | omega | exact Nat.le_refl _⟩, ⟨bkp BK491⟩, ⟨bbw1 HB GE491⟩⟩
     case rest =>
      clear HC25
      try clear c1
      try clear c2
      try clear p2
      try clear c3
      try clear c4
      try clear c5
      try clear p6
      try clear c19
      try clear c20
      try clear c20b0
      try clear c20b1
      try clear c21
      try clear c21b0
      try clear c21b1
      try clear c22
      try clear c22b0
      try clear c22b1
      try clear c23
      try clear c23b0
      try clear c23b1
      try clear c24
      try clear c26
      try clear c26b0
      try clear c26b1
      try clear hcz12_0
      try clear hcz12_1
      try clear hcz12_2
      try clear hcz14_0
      try clear hcz14_1
      try clear hcz14_2
      try clear hcz16_0
      try clear hcz16_1
      try clear hcz16_2
      try clear hcz18_0
      try clear hcz18_1
      try clear hcz18_2
      try clear hcz27_0
      try clear hcz27_1
      try clear hcz27_2
      try clear hfz12_0
      try clear hfz12_1
      try clear hfz12_2
      try clear hfz14_0
      try clear hfz14_1
      try clear hfz14_2
      try clear hfz16_0
      try clear hfz16_1
      try clear hfz16_2
      try clear hfz18_0
      try clear hfz18_1
      try clear hfz18_2
      try clear hfz27_0
      try clear hfz27_1
      try clear hfz27_2
      try clear p2
      obtain ⟨kq, x93_24, rfl, HA, HJ24, BK491, HB⟩ := hcut
      cases kq with
      | zero => exact absurd HA.out (by simp [laws_FnLeanCounts.j1])
      | succ kj24 =>
       have H := HA.out
       clear HA
       simp only [laws_FnLeanCounts.j1] at H
       by_cases c28 : x93_24 = true
       ·subst c28
        replace H := ifT H
        clear H
        go_wp2
        go_ret
        exact er (bbw1 HB GE491)
       ·replace c28 := Bool.eq_false_iff.mpr c28
        subst c28
        replace H := ifF H
        have H' := Aside0.mk H
        clear H
        go_wp2
        go_loopg [14, 15] kj24 (fun kq v14 v15 w' => ∃ (x14_3 : Int) (x15_3 : Int), v14 = .int .i64 x14_3 ∧ v15 = .int .i64 x15_3 ∧ Aside0 (laws_FnLeanCounts.l0 kq t486 t490 t496 x14_3 x15_3 t487 t488 t489 = some true) ∧ Aside0 (kq ≤ kj24) ∧ Aside0 (w'.heap[gb491]? = some (.cells #[.int .i64 t487, .int .i64 t488, .int .i64 t489] 33 (0, 0))) ∧ Aside0 (Below w.heap.size w w'))
        case atStart => exact ⟨(0), (1), (by first | rfl | (simp; done) | (simp [*]; done)), (by first | rfl | (simp; done) | (simp [*]; done)), H', ⟨Nat.le_refl _⟩, ⟨bkp BK491⟩, ⟨bbw1 HB GE491⟩⟩
        case round =>
         clear H'
         try clear c1
         try clear c2
         try clear p2
         try clear c3
         try clear c4
         try clear c5
         try clear p6
         try clear c19
         try clear c20
         try clear c20b0
         try clear c20b1
         try clear c21
         try clear c21b0
         try clear c21b1
         try clear c22
         try clear c22b0
         try clear c22b1
         try clear c23
         try clear c23b0
         try clear c23b1
         try clear c24
         try clear c26
         try clear c26b0
         try clear c26b1
         try clear c28
         try clear hcz12_0
         try clear hcz12_1
         try clear hcz12_2
         try clear hcz14_0
         try clear hcz14_1
         try clear hcz14_2
         try clear hcz16_0
         try clear hcz16_1
         try clear hcz16_2
         try clear hcz18_0
         try clear hcz18_1
         try clear hcz18_2
         try clear hcz27_0
         try clear hcz27_1
         try clear hcz27_2
         try clear hfz12_0
         try clear hfz12_1
         try clear hfz12_2
         try clear hfz14_0
         try clear hfz14_1
         try clear hfz14_2
         try clear hfz16_0
         try clear hfz16_1
         try clear hfz16_2
         try clear hfz18_0
         try clear hfz18_1
         try clear hfz18_2
         try clear hfz27_0
         try clear hfz27_1
         try clear hfz27_2
         try clear p2
         try clear p6
         obtain ⟨x14_3, x15_3, rfl, rfl, HA, HK3, BK491, HB⟩ := hrel
         cases gk with
         | zero => exact absurd HA.out (by simp [laws_FnLeanCounts.l0])
         | succ k3 =>
          have H := HA.out
          clear HA
          simp only [laws_FnLeanCounts.l0] at H
          by_cases c29 : x15_3 ≤ (wrap64 (t487 * t489))
          rw [if_pos c29] at H
          have c29b0 := decide_eq_true c29
          clear c29
          obtain ⟨⟨t500, t501⟩, A30, H⟩ := ob H
          try dsimp only at H
          by_cases c31 : t501 = 0
          rw [if_pos c31] at H
          have c31b0 : (t501 == 0) = true := beq_iff_eq.mpr c31
          have c31b1 : (t501 != 0) = false := bne_eq_false_iff_eq.mpr c31
          clear c31
          have H' := Aside0.mk H
          clear H
          rotate_left
          ·rw [if_neg c31] at H
           have c31b0 : (t501 == 0) = false := beq_eq_false_iff_ne.mpr c31
           have c31b1 : (t501 != 0) = true := bne_iff_ne.mpr c31
           exact absurd H (by simp)
          rw [if_neg c29] at H
          have c29b0 := decide_eq_false c29
          clear c29
          replace H := Option.some.inj H
          rotate_left
          all_goals
           obtain ⟨hcz32_0, hcz32_1, hcz32_2, hfz32_0, hfz32_1, hfz32_2⟩ := bz3 BK491
          ·go_wp2_with (first | ((with_reducible refine gate_callee (f := 24) rfl ?_); refine gl 105 Try.func24 #[.int .i64 x15_3] ?_; (with_reducible refine (impl_SublatticesOf.calls _ _ _ _ _ A30.out).mono ?_); rintro e w33 ⟨v502, rfl, ho0, hb⟩; refine ⟨_, rfl, ?_⟩; have HO503 := asd (Kd.R_lower (Kd.R_newB ho0 (g := gb491) (o := .cells #[.int .i64 t487, .int .i64 t488, .int .i64 t489] 33 (0, 0)) (bkp BK491)) (bsz1 HB GE491)); replace BK491 := bB BK491 hb; replace HB := bS1 HB GE491 hb; (try clear hb); (try clear hb2); (try clear hk); (try clear hi); (try clear ho0)))
           go_loopg [14, 18] k3 (fun kq v14 v18 w' => ∃ (x14_4 : Int) (x18_4 : Int), v14 = .int .i64 x14_4 ∧ v18 = .int .i64 x18_4 ∧ Aside0 (laws_FnLeanCounts.l1 kq t486 t490 t496 x14_4 x15_3 t500 x18_4 t487 t488 t489 = some true) ∧ Aside0 (kq ≤ k3) ∧ Aside0 (Kd.R k33 33 w' w.heap.size (fun k_ => k_ ≠ gb491) v502 t500) ∧ Aside0 (w'.heap[gb491]? = some (.cells #[.int .i64 t487, .int .i64 t488, .int .i64 t489] 33 (0, 0))) ∧ Aside0 (Below w.heap.size w w'))
           case atStart => exact ⟨(x14_3), (0), (by first | rfl | (simp; done) | (simp [*]; done)), (by first | rfl | (simp; done) | (simp [*]; done)), H', ⟨Nat.le_refl _⟩, ⟨by (with_reducible repeat (first | apply Kd.R_alloc | apply Kd.R_drewN | apply Kd.R_drew)); exact Kd.R_mono HO503.out (fun _ hk => hk.2)⟩, ⟨bkp BK491⟩, ⟨bbw1 HB GE491⟩⟩
           case round =>
            clear H'
            try clear c1
            try clear c2
            try clear p2
            try clear c3
            try clear c4
            try clear c5
            try clear p6
            try clear c19
            try clear c20
            try clear c20b0
            try clear c20b1
            try clear c21
            try clear c21b0
            try clear c21b1
            try clear c22
            try clear c22b0
            try clear c22b1
            try clear c23
            try clear c23b0
            try clear c23b1
            try clear c24
            try clear c26
            try clear c26b0
            try clear c26b1
            try clear c28
            try clear c29
            try clear c29b0
            try clear c31
            try clear c31b0
            try clear c31b1
            try clear hcz12_0
            try clear hcz12_1
            try clear hcz12_2
            try clear hcz14_0
            try clear hcz14_1
            try clear hcz14_2
            try clear hcz16_0
            try clear hcz16_1
            try clear hcz16_2
            try clear hcz18_0
            try clear hcz18_1
            try clear hcz18_2
            try clear hcz27_0
            try clear hcz27_1
            try clear hcz27_2
            try clear hcz32_0
            try clear hcz32_1
            try clear hcz32_2
            try clear hfz12_0
            try clear hfz12_1
            try clear hfz12_2
            try clear hfz14_0
            try clear hfz14_1
            try clear hfz14_2
            try clear hfz16_0
            try clear hfz16_1
            try clear hfz16_2
            try clear hfz18_0
            try clear hfz18_1
            try clear hfz18_2
            try clear hfz27_0
            try clear hfz27_1
            try clear hfz27_2
            try clear hfz32_0
            try clear hfz32_1
            try clear hfz32_2
            try clear p2
            try clear p6
            obtain ⟨x14_4, x18_4, rfl, rfl, HA, HK4, HO_16, BK491, HB⟩ := hrel
            cases gk with
            | zero => exact absurd HA.out (by simp [laws_FnLeanCounts.l1])
            | succ k4 =>
             have H := HA.out
             clear HA
             simp only [laws_FnLeanCounts.l1] at H
             by_cases c34 : x18_4 < (t500.length : Int)
             rw [if_pos c34] at H
             have c34b0 := decide_eq_true c34
             clear c34
             by_cases c35 : 0 ≤ x18_4
             rw [if_pos c35] at H
             have c35b0 := decide_eq_true c35
             clear c35
             obtain ⟨⟨t505, t506⟩, A36, H⟩ := ob H
             try dsimp only at H
             obtain ⟨⟨t508, t509⟩, A37, H⟩ := ob H
             try dsimp only at H
             rotate_left
             ·rw [if_neg c35] at H
              exact absurd H (by simp)
             rw [if_neg c34] at H
             have c34b0 := decide_eq_false c34
             clear c34
             have H' := Aside0.mk H
             clear H
             rotate_left
             ·have HC38 := Aside0.mk H
              clear H
              obtain ⟨Ao39, co39, eo39⟩ := Kd.R_slice HO_16.out
              subst eo39
              try go_wp2
              replace HO_16 := asd (Kd.R_drew HO_16.out)
              replace BK491 := asd (blk_drew BK491.out)
              replace HB := asd (below_drew1 HB.out)
              have p504 : 0 ≤ (x18_4 : Int) := od
              have q504 : x18_4 < (t500.length : Int) := od
              obtain ⟨ad504, e504, hx504_0, hx504_1, hx504_2⟩ := at_T33 (Kd.R_reads' HO_16.out).2.2 x18_4 p504 q504
              cases e504
              replace p504 := eq_true p504
              replace q504 := eq_true q504
              refine sh 13 (cb3 BK491 (c1 hx504_0 (c1 hx504_1 (e1 hx504_2)))) (fun hHeld => ?_); refine with_tabW laws_FnLeanCounts.tab22 laws_FnLeanCounts.bits22 (fun HT_ HW_ => ?_)
              generalize wr.drew = w40 at HO_16 BK491 HB hx504_0 hx504_1 hx504_2 hHeld ⊢
              refine pu 0 (some 117) (bT 13 1) HT_ ?_
              refine pu 1 (some 118) (bT 13 2) HT_ ?_
              refine pu 2 (some 119) (bT 13 3) HT_ ?_
              refine pu 4 (some 121) (bs 13 23) HT_ ?_
              refine ta 3 (some 120) (bT 13 5) HT_ HW_ hHeld ?_
              refine ta 5 (some 122) (bT 13 6) HT_ HW_ hHeld ?_
              refine pu 6 (some 123) (bT 13 7) HT_ ?_
              refine ro 7 (some 124) (bT 13 8) HT_ (fun K hK => ?_)
              refine gs Try.func25 #[.agg #[.int .i64 ((rd_T33 t500 x18_4).f0), .int .i64 ((rd_T33 t500 x18_4).f1), .int .i64 ((rd_T33 t500 x18_4).f2)], .agg #[.int .i64 t487, .int .i64 0]] ?_
              with_reducible refine (impl_IsInLattice.calls _ _ _ _ _ _ _ _ A36.out).mono ?_
              rintro e w41 ⟨rfl, hb⟩
              have HS3_ := (hb.cell (World.block_lt_of_cell? _ _ (hHeld.2.2.2.1))).trans (hHeld.2.2.2.1)
              have HS4_ := (hb.cell (World.block_lt_of_cell? _ _ (hHeld.2.2.2.2.1))).trans (hHeld.2.2.2.2.1)
              have HS5_ := (hb.cell (World.block_lt_of_cell? _ _ (hHeld.2.2.2.2.2))).trans (hHeld.2.2.2.2.2)
              refine ⟨_, rfl, ?_⟩
              replace HO_16 := asd (Kd.R_below (kr HO_16) hb)
              replace BK491 := bB BK491 hb
              replace HB := bS1 HB GE491 hb
              (try clear hb)
              (try clear hb2)
              (try clear hk)
              (try clear hi)
              refine hK.out _ _ ⟨bcl BK491 0, bcl BK491 1, bcl BK491 2, HS3_, HS4_, HS5_⟩ (fun hHeld => ?_)
              clear hK K
              refine norm_ (a' := ?_) ?_ ?_
              rotate_left
              ·show Act.put _ (some 124) _ = _
               simp only [Act.put, sA, sB, sC, i64_w, i32_w]
               rfl
              refine pu 8 (some 116) (bT 13 9) HT_ ?_
              refine pu 9 (some 125) (bT 13 10) HT_ ?_
              refine pu 10 (some 126) (bT 13 11) HT_ ?_
              refine pu 11 (some 19) (bT 13 12) HT_ ?_
              refine pu 12 (some 20) (bT 13 13) HT_ ?_
              refine done_ (done_of HT_.out (by kernel_rfl)) ?_
              try go_wp2
              replace HO_16 := asd (Kd.R_drew HO_16.out)
              replace BK491 := asd (blk_drew BK491.out)
              replace HB := asd (below_drew1 HB.out)
              have p507 : 0 ≤ (x18_4 : Int) := od
              have q507 : x18_4 < (t500.length : Int) := od
              obtain ⟨ad507, e507, hx507_0, hx507_1, hx507_2⟩ := at_T33 (Kd.R_reads' HO_16.out).2.2 x18_4 p507 q507
              obtain rfl : ad504 = ad507 := (by injection e507)
              replace p507 := eq_true p507
              replace q507 := eq_true q507
              refine sh 15 (cb3 BK491 (c1 hx507_0 (c1 hx507_1 (e1 hx507_2)))) (fun hHeld => ?_); refine with_tabW laws_FnLeanCounts.tab23 laws_FnLeanCounts.bits23 (fun HT_ HW_ => ?_)
              generalize w41.drew = w42 at HO_16 BK491 HB hx507_0 hx507_1 hx507_2 hHeld ⊢
              refine pu 0 (some 128) (bT 15 1) HT_ ?_
              refine pu 1 (some 129) (bT 15 2) HT_ ?_
              refine pu 2 (some 130) (bT 15 3) HT_ ?_
              refine pu 4 (some 132) (bs 15 23) HT_ ?_
              refine pu 6 (some 134) (bs 15 87) HT_ ?_
              refine ta 3 (some 131) (bs 15 95) HT_ HW_ hHeld ?_
              refine ta 5 (some 133) (bT 15 7) HT_ HW_ hHeld ?_
              refine ta 7 (some 135) (bT 15 8) HT_ HW_ hHeld ?_
              refine pu 8 (some 136) (bT 15 9) HT_ ?_
              refine ro 9 (some 137) (bT 15 10) HT_ (fun K hK => ?_)
              refine gs Try.func25 #[.agg #[.int .i64 ((rd_T33 t500 x18_4).f0), .int .i64 ((rd_T33 t500 x18_4).f1), .int .i64 ((rd_T33 t500 x18_4).f2)], .agg #[.int .i64 t488, .int .i64 t489]] ?_
              with_reducible refine (impl_IsInLattice.calls _ _ _ _ _ _ _ _ A37.out).mono ?_
              rintro e w43 ⟨rfl, hb⟩
              have HS3_ := (hb.cell (World.block_lt_of_cell? _ _ (hHeld.2.2.2.1))).trans (hHeld.2.2.2.1)
              have HS4_ := (hb.cell (World.block_lt_of_cell? _ _ (hHeld.2.2.2.2.1))).trans (hHeld.2.2.2.2.1)
              have HS5_ := (hb.cell (World.block_lt_of_cell? _ _ (hHeld.2.2.2.2.2))).trans (hHeld.2.2.2.2.2)
              refine ⟨_, rfl, ?_⟩
              replace HO_16 := asd (Kd.R_below (kr HO_16) hb)
              replace BK491 := bB BK491 hb
              replace HB := bS1 HB GE491 hb
              (try clear hb)
              (try clear hb2)
              (try clear hk)
              (try clear hi)
              refine hK.out _ _ ⟨bcl BK491 0, bcl BK491 1, bcl BK491 2, HS3_, HS4_, HS5_⟩ (fun hHeld => ?_)
              clear hK K
              refine norm_ (a' := ?_) ?_ ?_
              rotate_left
              ·show Act.put _ (some 137) _ = _
               simp only [Act.put, sA, sB, sC, i64_w, i32_w]
               rfl
              refine pu 10 (some 127) (bT 15 11) HT_ ?_
              refine pu 11 (some 138) (bT 15 12) HT_ ?_
              refine pu 12 (some 139) (bT 15 13) HT_ ?_
              refine pu 13 (some 21) (bT 15 14) HT_ ?_
              refine pu 14 (some 22) (bT 15 15) HT_ ?_
              refine done_ (done_of HT_.out (by kernel_rfl)) ?_
              go_upto_region 24 with (fail)
              go_cut [145] (fun v145 wc => ∃ (kq : Nat) (x145_37 : Bool), v145 = .bool x145_37 ∧ Aside0 (laws_FnLeanCounts.j4 kq t486 t490 t496 x14_4 x15_3 t500 x18_4 t505 t508 x145_37 t487 t488 t489 = some true) ∧ Aside0 (kq ≤ k4) ∧ Aside0 (Kd.R k33 33 wc w.heap.size (fun k_ => k_ ≠ gb491) (.slice (some ad504) t500.length co39) t500) ∧ Aside0 (wc.heap[gb491]? = some (.cells #[.int .i64 t487, .int .i64 t488, .int .i64 t489] 33 (0, 0))) ∧ Aside0 (Below w.heap.size w wc))
              case first =>
               have H := HC38.out
               clear HC38
               by_cases c44 : t506 = 0
               ·rw [if_pos c44] at H
                have c44b0 : (t506 == 0) = true := beq_iff_eq.mpr c44
                have c44b1 : (t506 != 0) = false := bne_eq_false_iff_eq.mpr c44
                clear c44
                (first | rw [c44b0] | (simp only [i64_w, i32_w]; rw [c44b0]) | skip)
                have H' := Aside0.mk H
                clear H
                go_wp2
                go_meet
                case rel => exact ⟨_, ((t509 != 0)), (by first | rfl | (simp; done) | (simp [*]; done)), H', ⟨by have := HJ8.out; have := HJ24.out; have := HK3.out; have := HK4.out; first | omega | exact Nat.le_refl _⟩, ⟨by (with_reducible repeat (first | apply Kd.R_alloc | apply Kd.R_drewN | apply Kd.R_drew)); exact HO_16.out⟩, ⟨bkp BK491⟩, ⟨bbw1 HB GE491⟩⟩
               ·rw [if_neg c44] at H
                have c44b0 : (t506 == 0) = false := beq_eq_false_iff_ne.mpr c44
                have c44b1 : (t506 != 0) = true := bne_iff_ne.mpr c44
                (first | rw [c44b0] | (simp only [i64_w, i32_w]; rw [c44b0]) | skip)
                have H' := Aside0.mk H
                clear H
                go_wp2
                go_meet
                case rel => exact ⟨_, (true), (by first | rfl | (simp; done) | (simp [*]; done)), H', ⟨by have := HJ8.out; have := HJ24.out; have := HK3.out; have := HK4.out; first | omega | exact Nat.le_refl _⟩, ⟨by (with_reducible repeat (first | apply Kd.R_alloc | apply Kd.R_drewN | apply Kd.R_drew)); exact HO_16.out⟩, ⟨bkp BK491⟩, ⟨bbw1 HB GE491⟩⟩
              case rest =>
               clear HC38
               try clear c1
               try clear c2
               try clear p2
               try clear c3
               try clear c4
               try clear c5
               try clear p5
               try clear q5
               try clear hx5
               try clear p6
               try clear c19
               try clear c20
               try clear c20b0
               try clear c20b1
               try clear c21
               try clear c21b0
               try clear c21b1
               try clear c22
               try clear c22b0
               try clear c22b1
               try clear c23
               try clear c23b0
               try clear c23b1
               try clear c24
               try clear c25
               try clear c26
               try clear c26b0
               try clear c26b1
               try clear c28
               try clear c29
               try clear c29b0
               try clear c31
               try clear c31b0
               try clear c31b1
               try clear c34
               try clear c34b0
               try clear c35
               try clear c35b0
               try clear c44
               try clear c44b0
               try clear c44b1
               try clear hcz12_0
               try clear hcz12_1
               try clear hcz12_2
               try clear hcz14_0
               try clear hcz14_1
               try clear hcz14_2
               try clear hcz16_0
               try clear hcz16_1
               try clear hcz16_2
               try clear hcz18_0
               try clear hcz18_1
               try clear hcz18_2
               try clear hcz27_0
               try clear hcz27_1
               try clear hcz27_2
               try clear hcz32_0
               try clear hcz32_1
               try clear hcz32_2
               try clear hfz12_0
               try clear hfz12_1
               try clear hfz12_2
               try clear hfz14_0
               try clear hfz14_1
               try clear hfz14_2
               try clear hfz16_0
               try clear hfz16_1
               try clear hfz16_2
               try clear hfz18_0
               try clear hfz18_1
               try clear hfz18_2
               try clear hfz27_0
               try clear hfz27_1
               try clear hfz27_2
               try clear hfz32_0
               try clear hfz32_1
               try clear hfz32_2
               try clear hx504_0
               try clear hx504_1
               try clear hx504_2
               try clear hx507_0
               try clear hx507_1
               try clear hx507_2
               try clear p2
               try clear p504
               try clear p507
               try clear p6
               try clear q504
               try clear q507
               obtain ⟨kq, x145_37, rfl, HA, HJ37, HO_16, BK491, HB⟩ := hcut
               cases kq with
               | zero => exact absurd HA.out (by simp [laws_FnLeanCounts.j4])
               | succ kj37 =>
                have H := HA.out
                clear HA
                simp only [laws_FnLeanCounts.j4] at H
                by_cases c45 : x145_37 = true
                ·subst c45
                 replace H := ifT H
                 exact absurd H (by simp)
                ·replace c45 := Bool.eq_false_iff.mpr c45
                 subst c45
                 replace H := ifF H
                 have HC46 := Aside0.mk H
                 clear H
                 go_upto_region 26 with (fail)
                 go_cut [149] (fun v149 wc => ∃ (kq : Nat) (x149_45 : Bool), v149 = .bool x149_45 ∧ Aside0 (laws_FnLeanCounts.j5 kq t486 t490 t496 x14_4 x15_3 t500 x18_4 x149_45 t487 t488 t489 = some true) ∧ Aside0 (kq ≤ kj37) ∧ Aside0 (Kd.R k33 33 wc w.heap.size (fun k_ => k_ ≠ gb491) (.slice (some ad504) t500.length co39) t500) ∧ Aside0 (wc.heap[gb491]? = some (.cells #[.int .i64 t487, .int .i64 t488, .int .i64 t489] 33 (0, 0))) ∧ Aside0 (Below w.heap.size w wc))
                 case first =>
                  have H := HC46.out
                  clear HC46
                  by_cases c47 : t505 = true
                  ·subst c47
                   replace H := ifT H
                   have H' := Aside0.mk H
                   clear H
                   go_wp2
                   go_meet
                   case rel => exact ⟨_, (t508), (by first | rfl | (simp; done) | (simp [*]; done)), H', ⟨by have := HJ8.out; have := HJ24.out; have := HK3.out; have := HK4.out; have := HJ37.out; first | omega | exact Nat.le_refl _⟩, ⟨by (with_reducible repeat (first | apply Kd.R_alloc | apply Kd.R_drewN | apply Kd.R_drew)); exact HO_16.out⟩, ⟨bkp BK491⟩, ⟨bbw1 HB GE491⟩⟩
                  ·replace c47 := Bool.eq_false_iff.mpr c47
                   subst c47
                   replace H := ifF H
                   have H' := Aside0.mk H
                   clear H
                   go_wp2
                   go_meet
                   case rel => exact ⟨_, (false), (by first | rfl | (simp; done) | (simp [*]; done)), H', ⟨by have := HJ8.out; have := HJ24.out; have := HK3.out; have := HK4.out; have := HJ37.out; first | omega | exact Nat.le_refl _⟩, ⟨by (with_reducible repeat (first | apply Kd.R_alloc | apply Kd.R_drewN | apply Kd.R_drew)); exact HO_16.out⟩, ⟨bkp BK491⟩, ⟨bbw1 HB GE491⟩⟩
                 case rest =>
                  clear HC46
                  try clear c1
                  try clear c2
                  try clear p2
                  try clear c3
                  try clear c4
                  try clear c5
                  try clear p5
                  try clear q5
                  try clear hx5
                  try clear p6
                  try clear c19
                  try clear c20
                  try clear c20b0
                  try clear c20b1
                  try clear c21
                  try clear c21b0
                  try clear c21b1
                  try clear c22
                  try clear c22b0
                  try clear c22b1
                  try clear c23
                  try clear c23b0
                  try clear c23b1
                  try clear c24
                  try clear c25
                  try clear c26
                  try clear c26b0
                  try clear c26b1
                  try clear c28
                  try clear c29
                  try clear c29b0
                  try clear c31
                  try clear c31b0
                  try clear c31b1
                  try clear c34
                  try clear c34b0
                  try clear c35
                  try clear c35b0
                  try clear c44
                  try clear c44b0
                  try clear c44b1
                  try clear c45
                  try clear c47
                  try clear hcz12_0
                  try clear hcz12_1
                  try clear hcz12_2
                  try clear hcz14_0
                  try clear hcz14_1
                  try clear hcz14_2
                  try clear hcz16_0
                  try clear hcz16_1
                  try clear hcz16_2
                  try clear hcz18_0
                  try clear hcz18_1
                  try clear hcz18_2
                  try clear hcz27_0
                  try clear hcz27_1
                  try clear hcz27_2
                  try clear hcz32_0
                  try clear hcz32_1
                  try clear hcz32_2
                  try clear hfz12_0
                  try clear hfz12_1
                  try clear hfz12_2
                  try clear hfz14_0
                  try clear hfz14_1
                  try clear hfz14_2
                  try clear hfz16_0
                  try clear hfz16_1
                  try clear hfz16_2
                  try clear hfz18_0
                  try clear hfz18_1
                  try clear hfz18_2
                  try clear hfz27_0
                  try clear hfz27_1
                  try clear hfz27_2
                  try clear hfz32_0
                  try clear hfz32_1
                  try clear hfz32_2
                  try clear hx504_0
                  try clear hx504_1
                  try clear hx504_2
                  try clear hx507_0
                  try clear hx507_1
                  try clear hx507_2
                  try clear p2
                  try clear p5
                  try clear p504
                  try clear p507
                  try clear p6
                  try clear q5
                  try clear q504
                  try clear q507
                  obtain ⟨kq, x149_45, rfl, HA, HJ45, HO_16, BK491, HB⟩ := hcut
                  cases kq with
                  | zero => exact absurd HA.out (by simp [laws_FnLeanCounts.j5])
                  | succ kj45 =>
                   have H := HA.out
                   clear HA
                   simp only [laws_FnLeanCounts.j5] at H
                   by_cases c48 : x149_45 = true
                   subst c48
                   replace H := ifT H
                   by_cases c49 : 0 ≤ x18_4
                   rw [if_pos c49] at H
                   have c49b0 := decide_eq_true c49
                   clear c49
                   by_cases c50 : x18_4 < (t500.length : Int)
                   rw [if_pos c50] at H
                   have c50b0 := decide_eq_true c50
                   clear c50
                   obtain ⟨⟨t511, t512⟩, A51, H⟩ := ob H
                   try dsimp only at H
                   by_cases c52 : t512 = 0
                   rw [if_pos c52] at H
                   have c52b0 : (t512 == 0) = true := beq_iff_eq.mpr c52
                   have c52b1 : (t512 != 0) = false := bne_eq_false_iff_eq.mpr c52
                   clear c52
                   have H' := Aside0.mk H
                   clear H
                   rotate_left
                   ·rw [if_neg c52] at H
                    have c52b0 : (t512 == 0) = false := beq_eq_false_iff_ne.mpr c52
                    have c52b1 : (t512 != 0) = true := bne_iff_ne.mpr c52
                    exact absurd H (by simp)
                   ·rw [if_neg c50] at H
                    exact absurd H (by simp)
                   ·rw [if_neg c49] at H
                    exact absurd H (by simp)
                   replace c48 := Bool.eq_false_iff.mpr c48
                   subst c48
                   replace H := ifF H
                   have H' := Aside0.mk H
                   clear H
                   rotate_left
                   have p510 : 0 ≤ (x18_4 : Int) := od
                   have q510 : x18_4 < (t500.length : Int) := od
                   obtain ⟨ad510, e510, hx510_0, hx510_1, hx510_2⟩ := at_T33 (Kd.R_reads' HO_16.out).2.2 x18_4 p510 q510
                   obtain rfl : ad504 = ad510 := (by injection e510)
                   replace p510 := eq_true p510
                   replace q510 := eq_true q510
                   go_wp2_with (first | ((with_reducible refine gate_callee (f := 20) rfl ?_); refine gl 157 Try.func20 #[.int .i64 t486, .agg #[.int .i64 ((rd_T33 t500 x18_4).f0), .int .i64 ((rd_T33 t500 x18_4).f1), .int .i64 ((rd_T33 t500 x18_4).f2)], .int .i64 t490] ?_; (with_reducible refine (impl_CountLean.calls _ _ _ _ _ _ _ _ _ A51.out).mono ?_); rintro e w53 ⟨rfl, hb⟩; refine ⟨_, rfl, ?_⟩; replace HO_16 := asd (Kd.R_below (kr HO_16) hb); replace BK491 := bB BK491 hb; replace HB := bS1 HB GE491 hb; (try clear hb)))
                   rotate_left
                   go_wp2
                   rotate_left
                   all_goals
                    go_roundg kj45
                    case measure => have := HJ8.out; have := HJ24.out; have := HK3.out; have := HK4.out; have := HJ37.out; have := HJ45.out; omega
                   ·case rel => exact ⟨(wrap64 (x14_4 + t511)), (wrap64 (x18_4 + 1)), (by first | rfl | (simp; done) | (simp [*]; done)), (by first | rfl | (simp; done) | (simp [*]; done)), H', ⟨by have := HJ8.out; have := HJ24.out; have := HK3.out; have := HK4.out; have := HJ37.out; have := HJ45.out; omega⟩, ⟨by (with_reducible repeat (first | apply Kd.R_alloc | apply Kd.R_drewN | apply Kd.R_drew)); exact HO_16.out⟩, ⟨bkp BK491⟩, ⟨bbw1 HB GE491⟩⟩
                   ·case rel => exact ⟨(x14_4), (wrap64 (x18_4 + 1)), (by first | rfl | (simp; done) | (simp [*]; done)), (by first | rfl | (simp; done) | (simp [*]; done)), H', ⟨by have := HJ8.out; have := HJ24.out; have := HK3.out; have := HK4.out; have := HJ37.out; have := HJ45.out; omega⟩, ⟨by (with_reducible repeat (first | apply Kd.R_alloc | apply Kd.R_drewN | apply Kd.R_drew)); exact HO_16.out⟩, ⟨bkp BK491⟩, ⟨bbw1 HB GE491⟩⟩
             ·obtain ⟨Ao54, co54, eo54⟩ := Kd.R_slice HO_16.out
              subst eo54
              go_wp2
              go_roundg k4
              case measure => have := HJ8.out; have := HJ24.out; have := HK3.out; have := HK4.out; omega
              case rel => exact ⟨(x14_4), (wrap64 (x15_3 + 1)), (by first | rfl | (simp; done) | (simp [*]; done)), (by first | rfl | (simp; done) | (simp [*]; done)), H', ⟨by have := HJ8.out; have := HJ24.out; have := HK3.out; have := HK4.out; omega⟩, ⟨bkp BK491⟩, ⟨bbw1 HB GE491⟩⟩
          ·go_wp2
           go_ret
           exact er (bbw1 HB GE491)

/-- The one plain statement of laws_FnLeanCounts. -/
def laws_FnLeanCounts.Pure : Prop := ∀ (l0 : List Int), l0.length ≤ maxLen → (∀ x ∈ l0, (Lit.int .u8 x).wf = true) → ∃ k, laws_FnLeanCounts.f k l0 = some true
end Go.Proofs.Ytfkdcngpjppnbaa.PA
