/- Walks written by program: each Go function that the law reaches comes to the plain function beside it. -/
import Derived.Test.YtfkdcngpjppnbaaPAx0
import Derived.Test.YtfkdcngpjppnbaaPAx1
import Derived.Test.YtfkdcngpjppnbaaPAx6
namespace Go.Proofs.Ytfkdcngpjppnbaa.PA
open Go.RowKit Go.Proofs.YtfkdcngpjppnbaaW.PrintWords Go.Proofs.YtfkdcngpjppnbaaW.PrintLast Go.Proofs.YtfkdcngpjppnbaaW.PrintMore
attribute [local go_sem] max2_int min2_int max_two min_two max_three min_three max_four min_four   -- for this text's walks alone
set_option linter.unusedVariables false
set_option linter.unusedSimpArgs false

/-! ### spec_l04Code: function 63 -/
def spec_l04Code.f (a0 : Int) (a1_0 : Int) (a1_1 : Int) (a1_2 : Int) : Option (Int) := (spec_IsFrame.f a0).bind fun t412 => (if t412 = true then ((spec_IsLattice.f a1_0 a1_1 a1_2).bind fun t413 => (if t413 = true then (some 0) else (some 1))) else (some 1))
set_option maxHeartbeats 8000000 in
set_option maxRecDepth 100000 in
theorem spec_l04Code.calls (a0 : Int) (a1_0 : Int) (a1_1 : Int) (a1_2 : Int) (r : Int) (w : World) (h : spec_l04Code.f a0 a1_0 a1_1 a1_2 = some r) :
  Calls Try.prog 63 #[.int .i64 a0, .agg #[.int .i64 a1_0, .int .i64 a1_1, .int .i64 a1_2]] w fun e w' => e = .returned (.int .i64 r) ∧ Below w.heap.size w w' := by
 have hu33 := Try.underlying33
 have HB := asd (Below.refl w.heap.size w)
 have H : ((spec_IsFrame.f a0).bind fun t412 => (if t412 = true then ((spec_IsLattice.f a1_0 a1_1 a1_2).bind fun t413 => (if t413 = true then (some 0) else (some 1))) else (some 1))) = some r := h
 clear h
 obtain ⟨t412, A3, H⟩ := ob H
 try dsimp only at H
 by_cases c4 : t412 = true
 subst c4
 replace H := ifT H
 obtain ⟨t413, A5, H⟩ := ob H
 try dsimp only at H
 by_cases c6 : t413 = true
 subst c6
 replace H := ifT H
 obtain rfl := Option.some.inj H
 rotate_left
 replace c6 := Bool.eq_false_iff.mpr c6
 subst c6
 replace H := ifF H
 obtain rfl := Option.some.inj H
 rotate_left
 replace c4 := Bool.eq_false_iff.mpr c4
 subst c4
 replace H := ifF H
 obtain rfl := Option.some.inj H
 rotate_left
 all_goals
  go_enter Try.func63, Try.ntmps63
 rotate_left 2
 ·go_wp2_with (first | ((with_reducible refine gd 3 rfl ?_); refine bx #[.int .i64 a1_0, .int .i64 a1_1, .int .i64 a1_2] 33 ?_; intro gb411 hg w13 BK411 hb; have GE411 := ngw0 hg HB; replace HB := bS0 HB hb; clear hb hg) | ((with_reducible refine gate_callee (f := 67) rfl ?_); refine gl 6 Try.func67 #[.int .i64 a0] ?_; (with_reducible refine (spec_IsFrame.calls _ _ _ A3.out).mono ?_); rintro e w' ⟨rfl, ⟨nd, rfl⟩⟩; refine ⟨_, rfl, ?_⟩))
  go_ret
  exact er (bbw1 HB GE411)
 all_goals
  go_wp2_with (first | ((with_reducible refine gd 3 rfl ?_); refine bx #[.int .i64 a1_0, .int .i64 a1_1, .int .i64 a1_2] 33 ?_; intro gb411 hg w7 BK411 hb; have GE411 := ngw0 hg HB; replace HB := bS0 HB hb; clear hb hg) | ((with_reducible refine gate_callee (f := 67) rfl ?_); refine gl 6 Try.func67 #[.int .i64 a0] ?_; (with_reducible refine (spec_IsFrame.calls _ _ _ A3.out).mono ?_); rintro e w' ⟨rfl, ⟨nd, rfl⟩⟩; refine ⟨_, rfl, ?_⟩; have hcz8_0 : w7.cell? ⟨gb411, 0, none⟩ = some (.int .i64 a1_0) := bcl BK411 0; have hcz8_1 : w7.cell? ⟨gb411, 1, none⟩ = some (.int .i64 a1_1) := bcl BK411 1; have hcz8_2 : w7.cell? ⟨gb411, 2, none⟩ = some (.int .i64 a1_2) := bcl BK411 2; have hfz8_0 := blk_frozen BK411.out 0; have hfz8_1 := blk_frozen BK411.out 1; have hfz8_2 := blk_frozen BK411.out 2) | (go_at_call 68; (with_reducible refine (spec_IsLattice.calls _ _ _ _ _ A5.out).mono ?_); rintro e w9 ⟨rfl, hb⟩; replace BK411 := bB BK411 hb; replace HB := bS1 HB GE411 hb; (try clear hb)))
  go_ret
  exact er (bbw1 HB GE411)
/-! ### spec_l06Code: function 50 -/
def spec_l06Code.f (a0 : Int) (a1_0 : Int) (a1_1 : Int) (a1_2 : Int) (a2 : Bool) : Option (Int) := (spec_l04Code.f a0 a1_0 a1_1 a1_2).bind fun t415 => (if t415 = 0 then (if a2 = true then (some t415) else (some 2)) else (some t415))
set_option maxHeartbeats 8000000 in
set_option maxRecDepth 100000 in
theorem spec_l06Code.calls (a0 : Int) (a1_0 : Int) (a1_1 : Int) (a1_2 : Int) (a2 : Bool) (r : Int) (w : World) (h : spec_l06Code.f a0 a1_0 a1_1 a1_2 a2 = some r) :
  Calls Try.prog 50 #[.int .i64 a0, .agg #[.int .i64 a1_0, .int .i64 a1_1, .int .i64 a1_2], .bool a2] w fun e w' => e = .returned (.int .i64 r) ∧ Below w.heap.size w w' := by
 have hu33 := Try.underlying33
 have HB := asd (Below.refl w.heap.size w)
 have H : ((spec_l04Code.f a0 a1_0 a1_1 a1_2).bind fun t415 => (if t415 = 0 then (if a2 = true then (some t415) else (some 2)) else (some t415))) = some r := h
 clear h
 obtain ⟨t415, A4, H⟩ := ob H
 try dsimp only at H
 by_cases c5 : t415 = 0
 rw [if_pos c5] at H
 have c5b0 : (t415 == 0) = true := beq_iff_eq.mpr c5
 have c5b1 : (t415 != 0) = false := bne_eq_false_iff_eq.mpr c5
 clear c5
 by_cases c6 : a2 = true
 subst c6
 replace H := ifT H
 obtain rfl := Option.some.inj H
 rotate_left
 replace c6 := Bool.eq_false_iff.mpr c6
 subst c6
 replace H := ifF H
 obtain rfl := Option.some.inj H
 rotate_left
 rw [if_neg c5] at H
 have c5b0 : (t415 == 0) = false := beq_eq_false_iff_ne.mpr c5
 have c5b1 : (t415 != 0) = true := bne_iff_ne.mpr c5
 obtain rfl := Option.some.inj H
 rotate_left
 all_goals
  go_enter Try.func50, Try.ntmps50
  go_wp2_with (first | ((with_reducible refine gd 4 rfl ?_); refine bx #[.int .i64 a1_0, .int .i64 a1_1, .int .i64 a1_2] 33 ?_; intro gb414 hg w7 BK414 hb; have GE414 := ngw0 hg HB; replace HB := bS0 HB hb; clear hb hg; obtain ⟨hcz8_0, hcz8_1, hcz8_2, hfz8_0, hfz8_1, hfz8_2⟩ := bz3 BK414) | ((with_reducible refine gate_callee (f := 63) rfl ?_); refine gl 10 Try.func63 #[.int .i64 a0, .agg #[.int .i64 a1_0, .int .i64 a1_1, .int .i64 a1_2]] ?_; (with_reducible refine (spec_l04Code.calls _ _ _ _ _ _ A4.out).mono ?_); rintro e w9 ⟨rfl, hb⟩; refine ⟨_, rfl, ?_⟩; replace BK414 := bB BK414 hb; replace HB := bS1 HB GE414 hb; (try clear hb)))
  go_ret
  exact er (bbw1 HB GE414)
/-! ### spec_l17Code: function 37 -/
def spec_l17Code.f (k : Nat) (a0 : Int) (a1_0 : Int) (a1_1 : Int) (a1_2 : Int) (a2 : Bool) (a3 : Int) (a4 : Int) : Option (Int) := if a2 = true then ((spec_l01In.f a3 1 10).bind fun t417 => ((spec_l06Code.f a0 a1_0 a1_1 a1_2 t417).bind fun t418 => (if t418 = 0 then ((spec_l17Power.f k a3 (wrap64 (a1_0 * a1_2)) a4).bind fun t419 => (if t419 > a4 then (some 3) else (some t418))) else (some t418)))) else ((spec_l06Code.f a0 a1_0 a1_1 a1_2 false).bind fun t420 => (if t420 = 0 then ((spec_l17Power.f k a3 (wrap64 (a1_0 * a1_2)) a4).bind fun t421 => (if t421 > a4 then (some 3) else (some t420))) else (some t420)))
def spec_l17Code.T1 : Bool × List (List Nat × List Nat) := (true, [([], []), ([], []), ([], []), ([2], [2]), ([3], [3]), ([4, 3, 3], [3, 4]), ([3, 5], [3, 5]), ([0, 1, 6, 5], [0, 1, 6]), ([7, 7, 0, 1, 2, 3, 4, 5, 6, 7], [7])])
def spec_l17Code.B1 : List Nat := [0, 0, 0, 4, 12, 28, 60, 127, 255]
theorem spec_l17Code.tab1 : rtab .any (opsOf Try.f37 1) = spec_l17Code.T1 := by kernel_rfl
theorem spec_l17Code.bits1 : waitsOk spec_l17Code.T1.2 spec_l17Code.B1 = true := by kernel_rfl
set_option maxHeartbeats 8000000 in
set_option maxRecDepth 100000 in
theorem spec_l17Code.calls (k : Nat) (a0 : Int) (a1_0 : Int) (a1_1 : Int) (a1_2 : Int) (a2 : Bool) (a3 : Int) (a4 : Int) (r : Int) (w : World) (h : spec_l17Code.f k a0 a1_0 a1_1 a1_2 a2 a3 a4 = some r) :
  Calls Try.prog 37 #[.int .i64 a0, .agg #[.int .i64 a1_0, .int .i64 a1_1, .int .i64 a1_2], .bool a2, .int .i64 a3, .int .i64 a4] w fun e w' => e = .returned (.int .i64 r) ∧ Below w.heap.size w w' := by
 have hu33 := Try.underlying33
 have HB := asd (Below.refl w.heap.size w)
 have H : (if a2 = true then ((spec_l01In.f a3 1 10).bind fun t417 => ((spec_l06Code.f a0 a1_0 a1_1 a1_2 t417).bind fun t418 => (if t418 = 0 then ((spec_l17Power.f k a3 (wrap64 (a1_0 * a1_2)) a4).bind fun t419 => (if t419 > a4 then (some 3) else (some t418))) else (some t418)))) else ((spec_l06Code.f a0 a1_0 a1_1 a1_2 false).bind fun t420 => (if t420 = 0 then ((spec_l17Power.f k a3 (wrap64 (a1_0 * a1_2)) a4).bind fun t421 => (if t421 > a4 then (some 3) else (some t420))) else (some t420)))) = some r := h
 clear h
 by_cases c6 : a2 = true
 subst c6
 replace H := ifT H
 obtain ⟨t417, A7, H⟩ := ob H
 try dsimp only at H
 obtain ⟨t418, A8, H⟩ := ob H
 try dsimp only at H
 by_cases c9 : t418 = 0
 rw [if_pos c9] at H
 have c9b0 : (t418 == 0) = true := beq_iff_eq.mpr c9
 have c9b1 : (t418 != 0) = false := bne_eq_false_iff_eq.mpr c9
 clear c9
 obtain ⟨t419, A10, H⟩ := ob H
 try dsimp only at H
 by_cases c11 : t419 > a4
 rw [if_pos c11] at H
 have c11b0 : decide (a4 < t419) = true := decide_eq_true c11
 clear c11
 obtain rfl := Option.some.inj H
 rotate_left
 rw [if_neg c11] at H
 have c11b0 : decide (a4 < t419) = false := decide_eq_false c11
 clear c11
 obtain rfl := Option.some.inj H
 rotate_left
 rw [if_neg c9] at H
 have c9b0 : (t418 == 0) = false := beq_eq_false_iff_ne.mpr c9
 have c9b1 : (t418 != 0) = true := bne_iff_ne.mpr c9
 obtain rfl := Option.some.inj H
 rotate_left
 replace c6 := Bool.eq_false_iff.mpr c6
 subst c6
 replace H := ifF H
 obtain ⟨t420, A23, H⟩ := ob H
 try dsimp only at H
 by_cases c24 : t420 = 0
 rw [if_pos c24] at H
 have c24b0 : (t420 == 0) = true := beq_iff_eq.mpr c24
 have c24b1 : (t420 != 0) = false := bne_eq_false_iff_eq.mpr c24
 clear c24
 obtain ⟨t421, A25, H⟩ := ob H
 try dsimp only at H
 by_cases c26 : t421 > a4
 rw [if_pos c26] at H
 have c26b0 : decide (a4 < t421) = true := decide_eq_true c26
 clear c26
 obtain rfl := Option.some.inj H
 rotate_left
 rw [if_neg c26] at H
 have c26b0 : decide (a4 < t421) = false := decide_eq_false c26
 clear c26
 obtain rfl := Option.some.inj H
 rotate_left
 rw [if_neg c24] at H
 have c24b0 : (t420 == 0) = false := beq_eq_false_iff_ne.mpr c24
 have c24b1 : (t420 != 0) = true := bne_iff_ne.mpr c24
 obtain rfl := Option.some.inj H
 rotate_left
 all_goals
  go_enter Try.func37, Try.ntmps37
  try go_wp2_with (first | ((with_reducible refine gd 6 rfl ?_); refine bx #[.int .i64 a1_0, .int .i64 a1_1, .int .i64 a1_2] 33 ?_; intro gb416 hg w12 BK416 hb; have GE416 := ngw0 hg HB; replace HB := bS0 HB hb; clear hb hg))
  replace BK416 := asd (blk_drew BK416.out)
  replace HB := asd (below_drew1 HB.out)
  refine sh 9 (eb3 BK416) (fun hHeld => ?_); refine with_tabW spec_l17Code.tab1 spec_l17Code.bits1 (fun HT_ HW_ => ?_)
  generalize w12.drew = w13 at BK416 HB hHeld ⊢
  refine pu 0 (some 12) (bT 9 1) HT_ ?_
  refine pu 2 (some 14) (bs 9 5) HT_ ?_
  refine pu 3 (some 15) (bs 9 13) HT_ ?_
 rotate_left 3
 ·refine pf 4 (some 16) (bs 9 29) HT_ ?_
  refine pf 5 (some 17) (bs 9 61) HT_ ?_
  refine pu 6 (some 18) (bs 9 125) HT_ ?_
  refine ta 1 (some 13) (bT 9 7) HT_ HW_ hHeld ?_
  refine ro 7 (some 19) (bT 9 8) HT_ (fun K hK => ?_)
  refine gs Try.func50 #[.int .i64 a0, .agg #[.int .i64 a1_0, .int .i64 a1_1, .int .i64 a1_2], .bool false] ?_
  with_reducible refine (spec_l06Code.calls _ _ _ _ _ _ _ A23.out).mono ?_
  rintro e w29 ⟨rfl, hb⟩
  refine ⟨_, rfl, ?_⟩
  replace BK416 := bB BK416 hb
  replace HB := bS1 HB GE416 hb
  (try clear hb)
  (try clear hb2)
  (try clear hk)
  (try clear hi)
  refine hK.out _ _ (eb3 BK416).out (fun hHeld => ?_)
  clear hK K
  refine norm_ (a' := ?_) ?_ ?_
  rotate_left
  ·show Act.put _ (some 19) _ = _
   simp only [Act.put, sA, sB, sC, i64_w, i32_w]
   rfl
  refine pu 8 (some 11) (bT 9 9) HT_ ?_
  refine done_ (done_of HT_.out (by kernel_rfl)) ?_
  obtain ⟨hcz30_0, hcz30_1, hcz30_2, hfz30_0, hfz30_1, hfz30_2⟩ := bz3 BK416
  try go_wp2_with (first | (go_at_call 41; (with_reducible refine (spec_l17Power.calls _ _ _ _ _ _ A25.out).mono ?_); rintro e w' ⟨rfl, ⟨nd, rfl⟩⟩))
  go_ret
  exact er (bbw1 HB GE416)
 ·refine pf 4 (some 16) (bs 9 29) HT_ ?_
  refine pf 5 (some 17) (bs 9 61) HT_ ?_
  refine pu 6 (some 18) (bs 9 125) HT_ ?_
  refine ta 1 (some 13) (bT 9 7) HT_ HW_ hHeld ?_
  refine ro 7 (some 19) (bT 9 8) HT_ (fun K hK => ?_)
  refine gs Try.func50 #[.int .i64 a0, .agg #[.int .i64 a1_0, .int .i64 a1_1, .int .i64 a1_2], .bool false] ?_
  with_reducible refine (spec_l06Code.calls _ _ _ _ _ _ _ A23.out).mono ?_
  rintro e w33 ⟨rfl, hb⟩
  refine ⟨_, rfl, ?_⟩
  replace BK416 := bB BK416 hb
  replace HB := bS1 HB GE416 hb
  (try clear hb)
  (try clear hb2)
  (try clear hk)
  (try clear hi)
  refine hK.out _ _ (eb3 BK416).out (fun hHeld => ?_)
  clear hK K
  refine norm_ (a' := ?_) ?_ ?_
  rotate_left
  ·show Act.put _ (some 19) _ = _
   simp only [Act.put, sA, sB, sC, i64_w, i32_w]
   rfl
  refine pu 8 (some 11) (bT 9 9) HT_ ?_
  refine done_ (done_of HT_.out (by kernel_rfl)) ?_
  obtain ⟨hcz34_0, hcz34_1, hcz34_2, hfz34_0, hfz34_1, hfz34_2⟩ := bz3 BK416
  try go_wp2_with (first | (go_at_call 41; (with_reducible refine (spec_l17Power.calls _ _ _ _ _ _ A25.out).mono ?_); rintro e w' ⟨rfl, ⟨nd, rfl⟩⟩))
  go_ret
  exact er (bbw1 HB GE416)
 ·refine pf 4 (some 16) (bs 9 29) HT_ ?_
  refine pf 5 (some 17) (bs 9 61) HT_ ?_
  refine pu 6 (some 18) (bs 9 125) HT_ ?_
  refine ta 1 (some 13) (bT 9 7) HT_ HW_ hHeld ?_
  refine ro 7 (some 19) (bT 9 8) HT_ (fun K hK => ?_)
  refine gs Try.func50 #[.int .i64 a0, .agg #[.int .i64 a1_0, .int .i64 a1_1, .int .i64 a1_2], .bool false] ?_
  with_reducible refine (spec_l06Code.calls _ _ _ _ _ _ _ A23.out).mono ?_
  rintro e w37 ⟨rfl, hb⟩
  refine ⟨_, rfl, ?_⟩
  replace BK416 := bB BK416 hb
  replace HB := bS1 HB GE416 hb
  (try clear hb)
  (try clear hb2)
  (try clear hk)
  (try clear hi)
  refine hK.out _ _ (eb3 BK416).out (fun hHeld => ?_)
  clear hK K
  refine norm_ (a' := ?_) ?_ ?_
  rotate_left
  ·show Act.put _ (some 19) _ = _
   simp only [Act.put, sA, sB, sC, i64_w, i32_w]
   rfl
  refine pu 8 (some 11) (bT 9 9) HT_ ?_
  refine done_ (done_of HT_.out (by kernel_rfl)) ?_
  try go_wp2
  go_ret
  exact er (bbw1 HB GE416)
 all_goals
  refine pu 4 (some 16) (bs 9 29) HT_ ?_
  refine ta 1 (some 13) (bT 9 5) HT_ HW_ hHeld ?_
  refine ro 5 (some 17) (bT 9 6) HT_ (fun K hK => ?_)
  refine gs Try.func51 #[.int .i64 a3, .int .i64 1, .int .i64 10] ?_
  with_reducible refine (spec_l01In.calls _ _ _ _ _ A7.out).mono ?_
  rintro e w' ⟨rfl, ⟨nd, rfl⟩⟩
  refine ⟨_, rfl, ?_⟩
  refine hK.out _ _ (eb3 BK416).out (fun hHeld => ?_)
  clear hK K
  refine norm_ (a' := ?_) ?_ ?_
  rotate_left
  ·show Act.put _ (some 17) _ = _
   simp only [Act.put, sA, sB, sC, i64_w, i32_w]
   rfl
  refine pu 6 (some 18) (bT 9 7) HT_ ?_
  refine ro 7 (some 19) (bT 9 8) HT_ (fun K hK => ?_)
  refine gs Try.func50 #[.int .i64 a0, .agg #[.int .i64 a1_0, .int .i64 a1_1, .int .i64 a1_2], .bool t417] ?_
  with_reducible refine (spec_l06Code.calls _ _ _ _ _ _ _ A8.out).mono ?_
  rintro e w14 ⟨rfl, hb⟩
  refine ⟨_, rfl, ?_⟩
  replace BK416 := bB BK416 hb
  replace HB := bS1 HB GE416 hb
  (try clear hb)
  (try clear hb2)
  (try clear hk)
  (try clear hi)
  refine hK.out _ _ (eb3 BK416).out (fun hHeld => ?_)
  clear hK K
  refine norm_ (a' := ?_) ?_ ?_
  rotate_left
  ·show Act.put _ (some 19) _ = _
   simp only [Act.put, sA, sB, sC, i64_w, i32_w]
   rfl
  refine pu 8 (some 11) (bT 9 9) HT_ ?_
  refine done_ (done_of HT_.out (by kernel_rfl)) ?_
 rotate_left 2
 ·try go_wp2
  go_ret
  exact er (bbw1 HB GE416)
 all_goals
  obtain ⟨hcz15_0, hcz15_1, hcz15_2, hfz15_0, hfz15_1, hfz15_2⟩ := bz3 BK416
  try go_wp2_with (first | (go_at_call 41; (with_reducible refine (spec_l17Power.calls _ _ _ _ _ _ A10.out).mono ?_); rintro e w' ⟨rfl, ⟨nd, rfl⟩⟩))
  go_ret
  exact er (bbw1 HB GE416)

attribute [local go_sem high] eqA43
/-! ### spec_SublatticesOf: function 52 -/
mutual
def spec_SublatticesOf.l0 : Nat → Int → List (S33) → Int → Option ((List (S33)) × Int)
 | 0, _, _, _ => none
 | k + 1, x0, x4, x5 => if x5 ≤ x0 then (spec_SublatticesOf.l1 k x0 x4 x5 0) else (some (x4, 0))
def spec_SublatticesOf.l1 : Nat → Int → List (S33) → Int → Int → Option ((List (S33)) × Int)
 | 0, _, _, _, _ => none
 | k + 1, x0, x4, x5, x6 => if x5 = 0 then (none) else (if (Int.tmod x0 x5) = 0 then (if x6 < x5 then (if x4.length < 5864062014805 then (spec_SublatticesOf.l1 k x0 (x4 ++ [(⟨x5, x6, wrap64 (Int.tdiv x0 x5)⟩ : S33)]) x5 (wrap64 (x6 + 1))) else (none)) else (spec_SublatticesOf.l0 k x0 x4 (wrap64 (x5 + 1)))) else (spec_SublatticesOf.l0 k x0 x4 (wrap64 (x5 + 1))))
end
def spec_SublatticesOf.f (k : Nat) (a0 : Int) : Option ((List (S33)) × Int) := (spec_l01In.f a0 1 64).bind fun t422 => (if t422 = true then (spec_SublatticesOf.l0 k a0 (([] : List (S33))) 1) else (some (([] : List (S33)), 2)))
set_option maxHeartbeats 8000000 in
set_option maxRecDepth 100000 in
theorem spec_SublatticesOf.calls (k : Nat) (a0 : Int) (r1 : List (S33)) (r2 : Int) (w : World) (h : spec_SublatticesOf.f k a0 = some (r1, r2)) :
  Calls Try.prog 52 #[.int .i64 a0] w fun e w' => ∃ v0_ : Value, e = .returned (.tuple #[v0_, .int .i64 r2]) ∧ Kd.R k33 33 w' w.heap.size (fun _ => True) v0_ r1 ∧ Below w.heap.size w w' := by
 have hu33 := Try.underlying33
 have HB := asd (Below.refl w.heap.size w)
 have H : ((spec_l01In.f a0 1 64).bind fun t422 => (if t422 = true then (spec_SublatticesOf.l0 k a0 (([] : List (S33))) 1) else (some (([] : List (S33)), 2)))) = some (r1, r2) := h
 clear h
 obtain ⟨t422, A2, H⟩ := ob H
 try dsimp only at H
 by_cases c3 : t422 = true
 subst c3
 replace H := ifT H
 obtain ⟨y423, hy423⟩ : ∃ y_ : List (S33), y_ = (([] : List (S33))) := ⟨_, rfl⟩
 replace H : (spec_SublatticesOf.l0 k a0 y423 1) = some (r1, r2) := by first | (rw [hy423]; with_reducible exact H) | (have H2_ := (Option.bind_some _ _).symm.trans H; rw [hy423]; with_reducible exact H2_) | (have H2_ := (Option.bind_some _ _).symm.trans H; with_reducible exact H2_) | with_reducible exact H | (rw [hy423]; exact H) | exact H
 have Ny423 := Aside0.mk hy423
 clear hy423
 have H' := Aside0.mk H
 clear H
 rotate_left
 replace c3 := Bool.eq_false_iff.mpr c3
 subst c3
 replace H := ifF H
 rotate_left
 rotate_left
 simp only [Option.some.injEq, Prod.mk.injEq] at H
 obtain ⟨rfl, rfl⟩ := H
 rotate_left
 all_goals
  go_enter Try.func52, Try.ntmps52
  go_wp2_with (first | ((with_reducible refine gate_callee (f := 51) rfl ?_); refine gl 8 Try.func51 #[.int .i64 a0, .int .i64 1, .int .i64 64] ?_; (with_reducible refine (spec_l01In.calls _ _ _ _ _ A2.out).mono ?_); rintro e w' ⟨rfl, ⟨nd, rfl⟩⟩; refine ⟨_, rfl, ?_⟩) | ((with_reducible refine gd 10 rfl ?_); refine Kd.R_lit k33 _ 33 ?hg (N := 10) ?hd (xs := ([] : List (S33))) (inner := []) (ok := fun _ => True) (okp := fun _ => True) ?hr ?hp (fun _ hk => hk) trivial (Below.refl _ _) (Nat.le_refl _) (by simp) ?_; (case hd => rfl); (case hg => rfl); (case hr => first | (go_simp; done) | (go_simp; rfl)); (case hp => exact (Reps.none _ _)); intro v424 w4 ho5 hb hg_ hnew_; clear hg_ hnew_; (first | rw [← Ny423.out] at ho5 | (simp only [Int.reduceToNat] at ho5; rw [← Ny423.out] at ho5)); have HO425 := asd (Kd.R_lower ho5 (bsz0 HB)); replace HB := bS0 HB hb; clear hb ho5))
 ·go_loopg [4, 5] k (fun kq v4 v5 w' => ∃ (x4_1 : List (S33)) (x5_1 : Int), v5 = .int .i64 x5_1 ∧ Aside0 (spec_SublatticesOf.l0 kq a0 x4_1 x5_1 = some (r1, r2)) ∧ Aside0 (kq ≤ k) ∧ Aside0 (Kd.R k33 33 w' w.heap.size (fun _ => True) v4 x4_1) ∧ Aside0 (Below w.heap.size w w'))
  case atStart => exact ⟨(y423), (1), (by first | rfl | (simp; done) | (simp [*]; done)), H', ⟨Nat.le_refl _⟩, ⟨by (with_reducible repeat (first | apply Kd.R_alloc | apply Kd.R_drewN | apply Kd.R_drew)); exact HO425.out⟩, ⟨bbw0 HB⟩⟩
  case round =>
   clear H'
   try clear p2
   try clear c3
   try clear c5
   obtain ⟨x4_1, x5_1, rfl, HA, HK1, HO_4, HB⟩ := hrel
   cases gk with
   | zero => exact absurd HA.out (by simp [spec_SublatticesOf.l0])
   | succ k1 =>
    have H := HA.out
    clear HA
    simp only [spec_SublatticesOf.l0] at H
    by_cases c6 : x5_1 ≤ a0
    ·rw [if_pos c6] at H
     have c6b0 := decide_eq_true c6
     clear c6
     have H' := Aside0.mk H
     clear H
     go_wp2
     go_loopg [4, 6] k1 (fun kq v4 v6 w' => ∃ (x4_2 : List (S33)) (x6_2 : Int), v6 = .int .i64 x6_2 ∧ Aside0 (spec_SublatticesOf.l1 kq a0 x4_2 x5_1 x6_2 = some (r1, r2)) ∧ Aside0 (kq ≤ k1) ∧ Aside0 (Kd.R k33 33 w' w.heap.size (fun _ => True) v4 x4_2) ∧ Aside0 (Below w.heap.size w w'))
     case atStart => exact ⟨(x4_1), (0), (by first | rfl | (simp; done) | (simp [*]; done)), H', ⟨Nat.le_refl _⟩, ⟨by (with_reducible repeat (first | apply Kd.R_alloc | apply Kd.R_drewN | apply Kd.R_drew)); exact HO_4.out⟩, ⟨bbw0 HB⟩⟩
     case round =>
      clear H'
      try clear p2
      try clear c3
      try clear c5
      try clear c6
      try clear c6b0
      try clear p2
      obtain ⟨x4_2, x6_2, rfl, HA, HK2, HO_4, HB⟩ := hrel
      cases gk with
      | zero => exact absurd HA.out (by simp [spec_SublatticesOf.l1])
      | succ k2 =>
       have H := HA.out
       clear HA
       simp only [spec_SublatticesOf.l1] at H
       by_cases c7 : x5_1 = 0
       ·rw [if_pos c7] at H
        exact absurd H (by simp)
       rw [if_neg c7] at H
       have c7b0 : (x5_1 == 0) = false := beq_eq_false_iff_ne.mpr c7
       have c7b1 : (x5_1 != 0) = true := bne_iff_ne.mpr c7
       by_cases c8 : (Int.tmod a0 x5_1) = 0
       rw [if_pos c8] at H
       have c8b0 : ((Int.tmod a0 x5_1) == 0) = true := beq_iff_eq.mpr c8
       have c8b1 : ((Int.tmod a0 x5_1) != 0) = false := bne_eq_false_iff_eq.mpr c8
       clear c8
       by_cases c9 : x6_2 < x5_1
       rw [if_pos c9] at H
       have c9b0 := decide_eq_true c9
       clear c9
       by_cases c10 : x4_2.length < 5864062014805
       rw [if_pos c10] at H
       have LMc10 := Aside0.mk c10
       clear c10
       obtain ⟨y426, hy426⟩ : ∃ y_ : List (S33), y_ = (x4_2 ++ [(⟨x5_1, x6_2, wrap64 (Int.tdiv a0 x5_1)⟩ : S33)]) := ⟨_, rfl⟩
       replace H : (spec_SublatticesOf.l1 k2 a0 y426 x5_1 (wrap64 (x6_2 + 1))) = some (r1, r2) := by first | (rw [hy426]; with_reducible exact H) | (have H2_ := (Option.bind_some _ _).symm.trans H; rw [hy426]; with_reducible exact H2_) | (have H2_ := (Option.bind_some _ _).symm.trans H; with_reducible exact H2_) | with_reducible exact H | (rw [hy426]; exact H) | exact H
       have Ny426 := Aside0.mk hy426
       clear hy426
       have H' := Aside0.mk H
       clear H
       rotate_left
       ·rw [if_neg c10] at H
        exact absurd H (by simp)
       rw [if_neg c9] at H
       have c9b0 := decide_eq_false c9
       clear c9
       have H' := Aside0.mk H
       clear H
       rotate_left
       rw [if_neg c8] at H
       have c8b0 : ((Int.tmod a0 x5_1) == 0) = false := beq_eq_false_iff_ne.mpr c8
       have c8b1 : ((Int.tmod a0 x5_1) != 0) = true := bne_iff_ne.mpr c8
       have H' := Aside0.mk H
       clear H
       rotate_left
       go_wp2_with (first | ((with_reducible refine gate_builtin (b := .append) (xs := #[.tmp 27, .tmp 34]) rfl ?_); at_builtin; refine Kd.R_append k33 (w0 := w) w.heap.size rfl (.tmp 27) (.tmp 34) 37 33 (.agg #[(.int .i64 0), (.int .i64 0), (.int .i64 0)]) 24 rfl Try.underlying37 info33 rfl (by decide) (by omega) u4 x4_2 (⟨x5_1, x6_2, wrap64 (Int.tdiv a0 x5_1)⟩ : S33) [.int .i64 x5_1, .int .i64 x6_2, .int .i64 (wrap64 (Int.tdiv a0 x5_1))] (fun _ => True) (fun _ => False) rfl rfl ?aP (fun _ hk => hk.elim) ?aF ?aO ?aB ?aS ?aL ?_; (case aP => exact k33_mkM _ _ _ (⟨x5_1, x6_2, wrap64 (Int.tdiv a0 x5_1)⟩ : S33)); (case aB => exact (bbw0 HB)); (case aF => exact (fun _ _ => trivial)); (case aO => exact (kr HO_4)); (case aS => exact (bsz0 HB)); (case aL => have := LMc10.out; omega); intro v427 w11 ho hb hg hat; rw [← Ny426.out] at ho; have n0_ := asd (hb); have n1_ := asd (ho); clear HB; clear HO_4; have HB := n0_; have HO428 := n1_; clear n0_ n1_; clear ho hb hg hat))
       rotate_left
       go_wp2
       rotate_left
       go_wp2
       rotate_left
       all_goals
        go_roundg k2
        case measure => have := HK1.out; have := HK2.out; omega
       ·case rel => exact ⟨(y426), (wrap64 (x6_2 + 1)), (by first | rfl | (simp; done) | (simp [*]; done)), H', ⟨by have := HK1.out; have := HK2.out; omega⟩, ⟨by (with_reducible repeat (first | apply Kd.R_alloc | apply Kd.R_drewN | apply Kd.R_drew)); exact HO428.out⟩, ⟨bbw0 HB⟩⟩
       rotate_left 2
       all_goals
        case rel => exact ⟨(x4_2), (wrap64 (x5_1 + 1)), (by first | rfl | (simp; done) | (simp [*]; done)), H', ⟨by have := HK1.out; have := HK2.out; omega⟩, ⟨by (with_reducible repeat (first | apply Kd.R_alloc | apply Kd.R_drewN | apply Kd.R_drew)); exact HO_4.out⟩, ⟨bbw0 HB⟩⟩
    ·rw [if_neg c6] at H
     have c6b0 := decide_eq_false c6
     clear c6
     simp only [Option.some.injEq, Prod.mk.injEq] at H
     obtain ⟨rfl, rfl⟩ := H
     go_wp2
     go_ret2
     exact ⟨_, by first | rfl | (simp [errW_none, errW_some] <;> rfl) | (simp [*, errW_none, errW_some] <;> rfl), by (with_reducible repeat (first | apply Kd.R_alloc | apply Kd.R_drewN | apply Kd.R_drew)); exact HO_4.out, bbw0 HB⟩
 ·go_ret2
  exact ⟨_, by first | rfl | (simp [errW_none, errW_some] <;> rfl) | (simp [*, errW_none, errW_some] <;> rfl), by first | exact Kd.R_nil _ _ _ _ _ | exact Kd.N_nil _ _ _ _ _ | exact Kd.V_nil _ _ _ _ _ | exact Kd.Q_nil _ _ _ _ _ | exact Kd.S_nil _ _ _ _ _, bbw0 HB⟩
/-! ### spec_l03Basis: function 53 -/
def spec_l03Basis.f (a0_0 : Int) (a0_1 : Int) (a0_2 : Int) : Option ((List (S43))) := some (([(⟨a0_0, 0⟩ : S43), (⟨a0_1, a0_2⟩ : S43)] : List (S43)))
set_option maxHeartbeats 8000000 in
set_option maxRecDepth 100000 in
theorem spec_l03Basis.calls (a0_0 : Int) (a0_1 : Int) (a0_2 : Int) (r : List (S43)) (w : World) (h : spec_l03Basis.f a0_0 a0_1 a0_2 = some r) :
  Calls Try.prog 53 #[.agg #[.int .i64 a0_0, .int .i64 a0_1, .int .i64 a0_2]] w fun e w' => ∃ v0_ : Value, e = .returned (v0_) ∧ Kd.R k43 43 w' w.heap.size (fun _ => True) v0_ r ∧ Below w.heap.size w w' := by
 have hu33 := Try.underlying33
 have hu43 := Try.underlying43
 have HB := asd (Below.refl w.heap.size w)
 have H : (some (([(⟨a0_0, 0⟩ : S43), (⟨a0_1, a0_2⟩ : S43)] : List (S43)))) = some r := h
 clear h
 obtain ⟨y430, hy430⟩ : ∃ y_ : List (S43), y_ = (([(⟨a0_0, 0⟩ : S43), (⟨a0_1, a0_2⟩ : S43)] : List (S43))) := ⟨_, rfl⟩
 replace H : (some y430) = some r := by first | (rw [hy430]; with_reducible exact H) | (have H2_ := (Option.bind_some _ _).symm.trans H; rw [hy430]; with_reducible exact H2_) | (have H2_ := (Option.bind_some _ _).symm.trans H; with_reducible exact H2_) | with_reducible exact H | (rw [hy430]; exact H) | exact H
 have Ny430 := Aside0.mk hy430
 clear hy430
 obtain rfl := Option.some.inj H
 go_enter Try.func53, Try.ntmps53
 go_wp2_with (first | ((with_reducible refine gd 1 rfl ?_); refine bx #[.int .i64 a0_0, .int .i64 a0_1, .int .i64 a0_2] 33 ?_; intro gb429 hg w2 BK429 hb; have GE429 := ngw0 hg HB; replace HB := bS0 HB hb; clear hb hg; obtain ⟨hcz3_0, hcz3_1, hcz3_2, hfz3_0, hfz3_1, hfz3_2⟩ := bz3 BK429) | ((with_reducible refine gd 11 rfl ?_); refine Kd.R_lit k43 _ 43 ?hg (N := 11) ?hd (xs := ([(⟨a0_0, 0⟩ : S43), (⟨a0_1, a0_2⟩ : S43)] : List (S43))) (inner := [.int .i64 a0_0, .int .i64 0, .int .i64 a0_1, .int .i64 a0_2]) (ok := fun _ => True) (okp := fun _ => True) ?hr ?hp (fun _ hk => hk) trivial (Below.refl _ _) (Nat.le_refl _) (by simp) ?_; (case hd => rfl); (case hg => rfl); (case hr => first | (go_simp; done) | (go_simp; rfl)); (case hp => exact (Reps.c2 (show Kd.M k43 _ _ _ (⟨a0_0, 0⟩ : S43) [.int .i64 a0_0, .int .i64 0] from (k43_mkM _ _ _ (⟨a0_0, 0⟩ : S43) )) (Reps.c2 (show Kd.M k43 _ _ _ (⟨a0_1, a0_2⟩ : S43) [.int .i64 a0_1, .int .i64 a0_2] from (k43_mkM _ _ _ (⟨a0_1, a0_2⟩ : S43) )) (Reps.none _ _)))); intro v431 w4 ho5 hb hg_ hnew_; clear hg_ hnew_; (first | rw [← Ny430.out] at ho5 | (simp only [Int.reduceToNat] at ho5; rw [← Ny430.out] at ho5)); have HO432 := asd (Kd.R_lower ho5 (bsz1 HB GE429)); replace BK429 := bB BK429 hb; replace HB := bS1 HB GE429 hb; clear hb ho5))
 go_ret
 exact ⟨_, by first | rfl | (simp [errW_none, errW_some] <;> rfl) | (simp [*, errW_none, errW_some] <;> rfl), by (with_reducible repeat (first | apply Kd.R_alloc | apply Kd.R_drewN | apply Kd.R_drew)); exact HO432.out, bbw1 HB GE429⟩
/-! ### spec_l01Mod: function 69 -/
def spec_l01Mod.f (a0 : Int) (a1 : Int) : Option (Int) := if a1 = 0 then (none) else (if (Int.tmod a0 a1) < 0 then (some (wrap64 ((Int.tmod a0 a1) + a1))) else (some (Int.tmod a0 a1)))
set_option maxHeartbeats 8000000 in
set_option maxRecDepth 100000 in
theorem spec_l01Mod.calls (a0 : Int) (a1 : Int) (r : Int) (w : World) (h : spec_l01Mod.f a0 a1 = some r) :
  Calls Try.prog 69 #[.int .i64 a0, .int .i64 a1] w fun e w' => e = .returned (.int .i64 r) ∧ Drawn0 w w' := by
 have H : (if a1 = 0 then (none) else (if (Int.tmod a0 a1) < 0 then (some (wrap64 ((Int.tmod a0 a1) + a1))) else (some (Int.tmod a0 a1)))) = some r := h
 clear h
 by_cases c3 : a1 = 0
 ·rw [if_pos c3] at H
  exact absurd H (by simp)
 rw [if_neg c3] at H
 have c3b0 : (a1 == 0) = false := beq_eq_false_iff_ne.mpr c3
 have c3b1 : (a1 != 0) = true := bne_iff_ne.mpr c3
 by_cases c4 : (Int.tmod a0 a1) < 0
 rw [if_pos c4] at H
 have c4b0 := decide_eq_true c4
 clear c4
 obtain rfl := Option.some.inj H
 rotate_left
 rw [if_neg c4] at H
 have c4b0 := decide_eq_false c4
 clear c4
 obtain rfl := Option.some.inj H
 rotate_left
 all_goals
  go_enter Try.func69, Try.ntmps69
  go_wp2
  go_ret
  exact ⟨by first | rfl | (simp; done) | (simp [*]; done), by repeat (first | exact Drawn0.refl _ | apply Drawn0.step)⟩
/-! ### spec_l03Reduce: function 64 -/
def spec_l03Reduce.f (a0_0 : Int) (a0_1 : Int) (a0_2 : Int) (a1_0 : Int) (a1_1 : Int) : Option (Int × Int) := (spec_l01Mod.f a1_1 a0_2).bind fun t436 => (if a0_2 = 0 then (none) else ((spec_l01Mod.f (wrap64 (a1_0 - (wrap64 ((wrap64 (Int.tdiv (wrap64 (a1_1 - t436)) a0_2)) * a0_1)))) a0_0).bind fun t437 => (some (t437, t436))))
set_option maxHeartbeats 8000000 in
set_option maxRecDepth 100000 in
theorem spec_l03Reduce.calls (a0_0 : Int) (a0_1 : Int) (a0_2 : Int) (a1_0 : Int) (a1_1 : Int) (r1 : Int) (r2 : Int) (w : World) (h : spec_l03Reduce.f a0_0 a0_1 a0_2 a1_0 a1_1 = some (r1, r2)) :
  Calls Try.prog 64 #[.agg #[.int .i64 a0_0, .int .i64 a0_1, .int .i64 a0_2], .agg #[.int .i64 a1_0, .int .i64 a1_1]] w fun e w' => e = .returned (.agg #[.int .i64 r1, .int .i64 r2]) ∧ Below w.heap.size w w' := by
 have hu33 := Try.underlying33
 have hu43 := Try.underlying43
 have HB := asd (Below.refl w.heap.size w)
 have H : ((spec_l01Mod.f a1_1 a0_2).bind fun t436 => (if a0_2 = 0 then (none) else ((spec_l01Mod.f (wrap64 (a1_0 - (wrap64 ((wrap64 (Int.tdiv (wrap64 (a1_1 - t436)) a0_2)) * a0_1)))) a0_0).bind fun t437 => (some (t437, t436))))) = some (r1, r2) := h
 clear h
 obtain ⟨t436, A3, H⟩ := ob H
 try dsimp only at H
 by_cases c4 : a0_2 = 0
 ·rw [if_pos c4] at H
  exact absurd H (by simp)
 ·rw [if_neg c4] at H
  have c4b0 : (a0_2 == 0) = false := beq_eq_false_iff_ne.mpr c4
  have c4b1 : (a0_2 != 0) = true := bne_iff_ne.mpr c4
  obtain ⟨t437, A5, H⟩ := ob H
  try dsimp only at H
  simp only [Option.some.injEq, Prod.mk.injEq] at H
  obtain ⟨rfl, rfl⟩ := H
  go_enter Try.func64, Try.ntmps64
  go_wp2_with (first | ((with_reducible refine gd 2 rfl ?_); refine bx #[.int .i64 a0_0, .int .i64 a0_1, .int .i64 a0_2] 33 ?_; intro gb433 hg w6 BK433 hb; have GE433 := ngw0 hg HB; replace HB := bS0 HB hb; clear hb hg) | ((with_reducible refine gd 3 rfl ?_); refine bx #[.int .i64 a1_0, .int .i64 a1_1] 43 ?_; intro gb434 hg w7 BK434 hb; have GE434 := ngw1 hg HB GE433; replace HB := bS1 HB GE433 hb; have NB433_434 := nlt hg BK433; have NB434_433 := nsy (nlt hg BK433); replace BK433 := bB BK433 hb; clear hb hg) | ((with_reducible refine gd 4 rfl ?_); refine bx #[.int .i64 0, .int .i64 0] 43 ?_; intro gb435 hg w8 BK435 hb; have GE435 := ngw2 hg HB GE433 GE434; replace HB := bS2 HB GE433 GE434 hb; have NB433_435 := nlt hg BK433; have NB435_433 := nsy (nlt hg BK433); replace BK433 := bB BK433 hb; have NB434_435 := nlt hg BK434; have NB435_434 := nsy (nlt hg BK434); replace BK434 := bB BK434 hb; clear hb hg; have hnb9 := NB434_433.out; have hnc9 := NB433_434.out; have hnb10 := NB434_435.out; have hnc10 := NB435_434.out; obtain ⟨hcz11_0, hcz11_1, hfz11_0, hfz11_1⟩ := bz2 BK434; have hnb12 := NB433_435.out; have hnc12 := NB435_433.out; obtain ⟨hcz13_0, hcz13_1, hcz13_2, hfz13_0, hfz13_1, hfz13_2⟩ := bz3 BK433) | ((with_reducible refine gate_callee (f := 69) rfl ?_); refine gl 11 Try.func69 #[.int .i64 a1_1, .int .i64 a0_2] ?_; (with_reducible refine (spec_l01Mod.calls _ _ _ _ A3.out).mono ?_); rintro e w' ⟨rfl, ⟨nd, rfl⟩⟩; refine ⟨_, rfl, ?_⟩; (try (rw [drewN_self w8]; generalize hq_ : World.drewN w8 _ = w8; have n0_ : Aside0 (w8.heap[gb433]? = some (.cells #[.int .i64 a0_0, .int .i64 a0_1, .int .i64 a0_2] 33 (0, 0))) := ⟨by rw [← hq_]; exact (bkp BK433)⟩; have n1_ : Aside0 (w8.heap[gb434]? = some (.cells #[.int .i64 a1_0, .int .i64 a1_1] 43 (0, 0))) := ⟨by rw [← hq_]; exact (bkp BK434)⟩; have n2_ : Aside0 (w8.heap[gb435]? = some (.cells #[.int .i64 0, .int .i64 0] 43 (0, 0))) := ⟨by rw [← hq_]; exact (bkp BK435)⟩; have n3_ : Aside0 (Below w.heap.size w w8) := ⟨by rw [← hq_]; exact (bbw3 HB GE433 GE434 GE435)⟩; clear BK433 BK434 BK435 HB hq_; have BK433 := n0_; have BK434 := n1_; have BK435 := n2_; have HB := n3_; clear n0_ n1_ n2_ n3_)); have hcz14_0 : w8.cell? ⟨gb434, 0, none⟩ = some (.int .i64 a1_0) := bcl BK434 0; have hcz14_1 : w8.cell? ⟨gb434, 1, none⟩ = some (.int .i64 a1_1) := bcl BK434 1; have hfz14_0 := blk_frozen BK434.out 0; have hfz14_1 := blk_frozen BK434.out 1; have hcz15_0 : w8.cell? ⟨gb433, 0, none⟩ = some (.int .i64 a0_0) := bcl BK433 0; have hcz15_1 : w8.cell? ⟨gb433, 1, none⟩ = some (.int .i64 a0_1) := bcl BK433 1; have hcz15_2 : w8.cell? ⟨gb433, 2, none⟩ = some (.int .i64 a0_2) := bcl BK433 2; have hfz15_0 := blk_frozen BK433.out 0; have hfz15_1 := blk_frozen BK433.out 1; have hfz15_2 := blk_frozen BK433.out 2) | ((with_reducible refine gate_callee (f := 69) rfl ?_); refine gl 28 Try.func69 #[.int .i64 (wrap64 (a1_0 - (wrap64 ((wrap64 (Int.tdiv (wrap64 (a1_1 - t436)) a0_2)) * a0_1)))), .int .i64 a0_0] ?_; (with_reducible refine (spec_l01Mod.calls _ _ _ _ A5.out).mono ?_); rintro e w' ⟨rfl, ⟨nd, rfl⟩⟩; refine ⟨_, rfl, ?_⟩; (try (rw [drewN_self w8]; generalize hq_ : World.drewN w8 _ = w8; have n0_ : Aside0 (w8.heap[gb433]? = some (.cells #[.int .i64 a0_0, .int .i64 a0_1, .int .i64 a0_2] 33 (0, 0))) := ⟨by rw [← hq_]; exact (bkp BK433)⟩; have n1_ : Aside0 (w8.heap[gb434]? = some (.cells #[.int .i64 a1_0, .int .i64 a1_1] 43 (0, 0))) := ⟨by rw [← hq_]; exact (bkp BK434)⟩; have n2_ : Aside0 (w8.heap[gb435]? = some (.cells #[.int .i64 0, .int .i64 0] 43 (0, 0))) := ⟨by rw [← hq_]; exact (bkp BK435)⟩; have n3_ : Aside0 (Below w.heap.size w w8) := ⟨by rw [← hq_]; exact (bbw3 HB GE433 GE434 GE435)⟩; clear BK433 BK434 BK435 HB hq_; have BK433 := n0_; have BK434 := n1_; have BK435 := n2_; have HB := n3_; clear n0_ n1_ n2_ n3_)); have hcz16_0 : w8.cell? ⟨gb435, 0, none⟩ = some (.int .i64 0) := bcl BK435 0; have hcz16_1 : w8.cell? ⟨gb435, 1, none⟩ = some (.int .i64 0) := bcl BK435 1; have hfz16_0 := blk_frozen BK435.out 0; have hfz16_1 := blk_frozen BK435.out 1))
  refine bodyPost_ret (results_cell_row rfl _ _ gb435 43 #[.int .i64 t437, .int .i64 t436] (0, 0) _ rfl (bq0 BK435) Try.underlying43 rfl (by kernel_rfl)) rfl ?_
  exact er (bbw3 HB GE433 GE434 GE435)
/-! ### spec_l03Has: function 54 -/
def spec_l03Has.f (a0_0 : Int) (a0_1 : Int) (a0_2 : Int) (a1_0 : Int) (a1_1 : Int) : Option (Bool) := (spec_l03Reduce.f a0_0 a0_1 a0_2 a1_0 a1_1).bind fun bt440 => (some (bt440.1 == 0 && (bt440.2 == 0)))
set_option maxHeartbeats 8000000 in
set_option maxRecDepth 100000 in
theorem spec_l03Has.calls (a0_0 : Int) (a0_1 : Int) (a0_2 : Int) (a1_0 : Int) (a1_1 : Int) (r : Bool) (w : World) (h : spec_l03Has.f a0_0 a0_1 a0_2 a1_0 a1_1 = some r) :
  Calls Try.prog 54 #[.agg #[.int .i64 a0_0, .int .i64 a0_1, .int .i64 a0_2], .agg #[.int .i64 a1_0, .int .i64 a1_1]] w fun e w' => e = .returned (.bool r) ∧ Below w.heap.size w w' := by
 have hu33 := Try.underlying33
 have hu43 := Try.underlying43
 have HB := asd (Below.refl w.heap.size w)
 have H : ((spec_l03Reduce.f a0_0 a0_1 a0_2 a1_0 a1_1).bind fun bt440 => (some (bt440.1 == 0 && (bt440.2 == 0)))) = some r := h
 clear h
 obtain ⟨⟨t440, t441⟩, A3, H⟩ := ob H
 try dsimp only at H
 obtain rfl := Option.some.inj H
 go_enter Try.func54, Try.ntmps54
 go_wp2_with (first | ((with_reducible refine gd 2 rfl ?_); refine bx #[.int .i64 a0_0, .int .i64 a0_1, .int .i64 a0_2] 33 ?_; intro gb438 hg w4 BK438 hb; have GE438 := ngw0 hg HB; replace HB := bS0 HB hb; clear hb hg) | ((with_reducible refine gd 3 rfl ?_); refine bx #[.int .i64 a1_0, .int .i64 a1_1] 43 ?_; intro gb439 hg w5 BK439 hb; have GE439 := ngw1 hg HB GE438; replace HB := bS1 HB GE438 hb; have NB438_439 := nlt hg BK438; have NB439_438 := nsy (nlt hg BK438); replace BK438 := bB BK438 hb; clear hb hg; have hnb6 := NB438_439.out; have hnc6 := NB439_438.out; obtain ⟨hcz7_0, hcz7_1, hcz7_2, hfz7_0, hfz7_1, hfz7_2⟩ := bz3 BK438; obtain ⟨hcz8_0, hcz8_1, hfz8_0, hfz8_1⟩ := bz2 BK439) | ((with_reducible refine gate_callee (f := 64) rfl ?_); refine gl 7 Try.func64 #[.agg #[.int .i64 a0_0, .int .i64 a0_1, .int .i64 a0_2], .agg #[.int .i64 a1_0, .int .i64 a1_1]] ?_; (with_reducible refine (spec_l03Reduce.calls _ _ _ _ _ _ _ _ A3.out).mono ?_); rintro e w9 ⟨rfl, hb⟩; refine ⟨_, rfl, ?_⟩; replace BK438 := bB BK438 hb; replace BK439 := bB BK439 hb; replace HB := bS2 HB GE438 GE439 hb; (try clear hb)))
 go_ret
 exact er (bbw2 HB GE438 GE439)
/-! ### spec_l17Lean: function 38 -/
mutual
def spec_l17Lean.l0 : Nat → Int → Int → Int → Int → Int → Int → Option (Int)
 | 0, _, _, _, _, _, _ => none
 | k + 1, x1, x5, x6, x443000, x443001, x443002 => if x6 < (wrap64 (x443000 * x443002)) then ((spec_SublatticesOf.f k x6).bind fun bt444 => (spec_l17Lean.l1 k x1 x5 x6 bt444.1 0 x443000 x443001 x443002)) else (some x5)
def spec_l17Lean.l1 : Nat → Int → Int → Int → List (S33) → Int → Int → Int → Int → Option (Int)
 | 0, _, _, _, _, _, _, _, _ => none
 | k + 1, x1, x5, x6, x7, x9, x443000, x443001, x443002 => if x9 < (x7.length : Int) then ((spec_l03Basis.f x443000 x443001 x443002).bind fun t448 => (if 0 ≤ x9 then (if 0 < (t448.length : Int) then ((spec_l03Has.f ((rd_T33 x7 x9).f0) ((rd_T33 x7 x9).f1) ((rd_T33 x7 x9).f2) ((rd_T43 t448 0).f0) ((rd_T43 t448 0).f1)).bind fun t453 => (if t453 = true then (if 1 < (t448.length : Int) then ((spec_l03Has.f ((rd_T33 x7 x9).f0) ((rd_T33 x7 x9).f1) ((rd_T33 x7 x9).f2) ((rd_T43 t448 1).f0) ((rd_T43 t448 1).f1)).bind fun t456 => (if t456 = true then ((spec_l17Lean.f k ((rd_T33 x7 x9).f0) ((rd_T33 x7 x9).f1) ((rd_T33 x7 x9).f2) x1).bind fun t458 => (spec_l17Lean.l1 k x1 (wrap64 (x5 - t458)) x6 x7 (wrap64 (x9 + 1)) x443000 x443001 x443002)) else (spec_l17Lean.l1 k x1 x5 x6 x7 (wrap64 (x9 + 1)) x443000 x443001 x443002))) else (none)) else (spec_l17Lean.l1 k x1 x5 x6 x7 (wrap64 (x9 + 1)) x443000 x443001 x443002))) else (none)) else (none))) else (spec_l17Lean.l0 k x1 x5 (wrap64 (x6 + 1)) x443000 x443001 x443002)
def spec_l17Lean.f : Nat → Int → Int → Int → Int → Option (Int)
 | 0, _, _, _, _ => none
 | k + 1, a0_0, a0_1, a0_2, a1 => (spec_l17Power.f k a1 (wrap64 (a0_0 * a0_2)) 1000000000000).bind fun t443 => (spec_l17Lean.l0 k a1 t443 1 a0_0 a0_1 a0_2)
end
def spec_l17Lean.T10 : Bool × List (List Nat × List Nat) := (true, [([], []), ([], []), ([0, 1], [0, 1]), ([2], [2]), ([], []), ([4], [4]), ([5], [5]), ([3, 6], [3, 6]), ([7, 7], [7]), ([8], [8]), ([8], [8]), ([9, 10, 8], [8, 9, 10]), ([11, 8], [8, 11]), ([8], [8]), ([13, 8], [8, 13]), ([14, 8], [8, 14]), ([12, 15, 8, 8], [8, 12, 15]), ([8, 16], [8, 16])])
def spec_l17Lean.B10 : List Nat := [0, 0, 3, 7, 0, 16, 48, 127, 255, 511, 511, 2047, 4095, 511, 8703, 25087, 65535, 131071]
theorem spec_l17Lean.tab10 : rtab .any (opsOf Try.f38 10) = spec_l17Lean.T10 := by kernel_rfl
theorem spec_l17Lean.bits10 : waitsOk spec_l17Lean.T10.2 spec_l17Lean.B10 = true := by kernel_rfl
set_option maxHeartbeats 8000000 in
set_option maxRecDepth 100000 in
theorem spec_l17Lean.calls (k : Nat) : ∀ (a0_0 : Int) (a0_1 : Int) (a0_2 : Int) (a1 : Int) (r : Int) (w : World) (h : spec_l17Lean.f k a0_0 a0_1 a0_2 a1 = some r),
  Calls Try.prog 38 #[.agg #[.int .i64 a0_0, .int .i64 a0_1, .int .i64 a0_2], .int .i64 a1] w fun e w' => e = .returned (.int .i64 r) ∧ Below w.heap.size w w' := by
 induction k using Nat.strongRecOn with
 | _ k ih =>
 intro a0_0 a0_1 a0_2 a1 r w h
 cases k with
 | zero => exact absurd h (by simp [spec_l17Lean.f])
 | succ k =>
 simp only [spec_l17Lean.f] at h
 have hu33 := Try.underlying33
 have hu43 := Try.underlying43
 have HB := asd (Below.refl w.heap.size w)
 have H : ((spec_l17Power.f k a1 (wrap64 (a0_0 * a0_2)) 1000000000000).bind fun t443 => (spec_l17Lean.l0 k a1 t443 1 a0_0 a0_1 a0_2)) = some r := h
 clear h
 obtain ⟨t443, A3, H⟩ := ob H
 try dsimp only at H
 have H' := Aside0.mk H
 clear H
 go_enter Try.func38, Try.ntmps38
 go_wp2_with (first | ((with_reducible refine gd 2 rfl ?_); refine bx #[.int .i64 a0_0, .int .i64 a0_1, .int .i64 a0_2] 33 ?_; intro gb442 hg w4 BK442 hb; have GE442 := ngw0 hg HB; replace HB := bS0 HB hb; clear hb hg; obtain ⟨hcz5_0, hcz5_1, hcz5_2, hfz5_0, hfz5_1, hfz5_2⟩ := bz3 BK442) | ((with_reducible refine gate_callee (f := 41) rfl ?_); refine gl 17 Try.func41 #[.int .i64 a1, .int .i64 (wrap64 (a0_0 * a0_2)), .int .i64 1000000000000] ?_; (with_reducible refine (spec_l17Power.calls _ _ _ _ _ _ A3.out).mono ?_); rintro e w' ⟨rfl, ⟨nd, rfl⟩⟩; refine ⟨_, rfl, ?_⟩))
 go_loopg [5, 6] k (fun kq v5 v6 w' => ∃ (x5_1 : Int) (x6_1 : Int), v5 = .int .i64 x5_1 ∧ v6 = .int .i64 x6_1 ∧ Aside0 (spec_l17Lean.l0 kq a1 x5_1 x6_1 a0_0 a0_1 a0_2 = some r) ∧ Aside0 (kq ≤ k) ∧ Aside0 (w'.heap[gb442]? = some (.cells #[.int .i64 a0_0, .int .i64 a0_1, .int .i64 a0_2] 33 (0, 0))) ∧ Aside0 (Below w.heap.size w w'))
 case atStart => exact ⟨(t443), (1), (by first | rfl | (simp; done) | (simp [*]; done)), (by first | rfl | (simp; done) | (simp [*]; done)), H', ⟨Nat.le_refl _⟩, ⟨bkp BK442⟩, ⟨bbw1 HB GE442⟩⟩
 case round =>
  clear H'
  try clear p2
  try clear c3
  try clear c4
  try clear hcz5_0
  try clear hcz5_1
  try clear hcz5_2
  try clear hfz5_0
  try clear hfz5_1
  try clear hfz5_2
  obtain ⟨x5_1, x6_1, rfl, rfl, HA, HK1, BK442, HB⟩ := hrel
  cases gk with
  | zero => exact absurd HA.out (by simp [spec_l17Lean.l0])
  | succ k1 =>
   have H := HA.out
   clear HA
   simp only [spec_l17Lean.l0] at H
   by_cases c6 : x6_1 < (wrap64 (a0_0 * a0_2))
   ·rw [if_pos c6] at H
    have c6b0 := decide_eq_true c6
    clear c6
    obtain ⟨⟨t444, t445⟩, A7, H⟩ := ob H
    try dsimp only at H
    have H' := Aside0.mk H
    clear H
    obtain ⟨hcz8_0, hcz8_1, hcz8_2, hfz8_0, hfz8_1, hfz8_2⟩ := bz3 BK442
    go_wp2_with (first | ((with_reducible refine gate_callee (f := 52) rfl ?_); refine gl 29 Try.func52 #[.int .i64 x6_1] ?_; (with_reducible refine (spec_SublatticesOf.calls _ _ _ _ _ A7.out).mono ?_); rintro e w9 ⟨v446, rfl, ho0, hb⟩; refine ⟨_, rfl, ?_⟩; have HO447 := asd (Kd.R_lower (Kd.R_newB ho0 (g := gb442) (o := .cells #[.int .i64 a0_0, .int .i64 a0_1, .int .i64 a0_2] 33 (0, 0)) (bkp BK442)) (bsz1 HB GE442)); replace BK442 := bB BK442 hb; replace HB := bS1 HB GE442 hb; (try clear hb); (try clear hb2); (try clear hk); (try clear hi); (try clear ho0)))
    go_loopg [5, 9] k1 (fun kq v5 v9 w' => ∃ (x5_2 : Int) (x9_2 : Int), v5 = .int .i64 x5_2 ∧ v9 = .int .i64 x9_2 ∧ Aside0 (spec_l17Lean.l1 kq a1 x5_2 x6_1 t444 x9_2 a0_0 a0_1 a0_2 = some r) ∧ Aside0 (kq ≤ k1) ∧ Aside0 (Kd.R k33 33 w' w.heap.size (fun k_ => k_ ≠ gb442) v446 t444) ∧ Aside0 (w'.heap[gb442]? = some (.cells #[.int .i64 a0_0, .int .i64 a0_1, .int .i64 a0_2] 33 (0, 0))) ∧ Aside0 (Below w.heap.size w w'))
    case atStart => exact ⟨(x5_1), (0), (by first | rfl | (simp; done) | (simp [*]; done)), (by first | rfl | (simp; done) | (simp [*]; done)), H', ⟨Nat.le_refl _⟩, ⟨by (with_reducible repeat (first | apply Kd.R_alloc | apply Kd.R_drewN | apply Kd.R_drew)); exact Kd.R_mono HO447.out (fun _ hk => hk.2)⟩, ⟨bkp BK442⟩, ⟨bbw1 HB GE442⟩⟩
    case round =>
     clear H'
     try clear p2
     try clear c3
     try clear c4
     try clear c5
     try clear c6
     try clear c6b0
     try clear p6
     try clear hcz5_0
     try clear hcz5_1
     try clear hcz5_2
     try clear hcz8_0
     try clear hcz8_1
     try clear hcz8_2
     try clear hfz5_0
     try clear hfz5_1
     try clear hfz5_2
     try clear hfz8_0
     try clear hfz8_1
     try clear hfz8_2
     try clear p2
     obtain ⟨x5_2, x9_2, rfl, rfl, HA, HK2, HO_7, BK442, HB⟩ := hrel
     cases gk with
     | zero => exact absurd HA.out (by simp [spec_l17Lean.l1])
     | succ k2 =>
      have H := HA.out
      clear HA
      simp only [spec_l17Lean.l1] at H
      by_cases c10 : x9_2 < (t444.length : Int)
      rw [if_pos c10] at H
      have c10b0 := decide_eq_true c10
      clear c10
      obtain ⟨t448, A11, H⟩ := ob H
      try dsimp only at H
      by_cases c12 : 0 ≤ x9_2
      rw [if_pos c12] at H
      have c12b0 := decide_eq_true c12
      clear c12
      by_cases c13 : 0 < (t448.length : Int)
      rw [if_pos c13] at H
      have c13b0 := decide_eq_true c13
      have c13b1 : decide (0 < t448.length) = true := decide_eq_true (by omega)
      clear c13
      obtain ⟨t453, A14, H⟩ := ob H
      try dsimp only at H
      by_cases c15 : t453 = true
      subst c15
      replace H := ifT H
      by_cases c16 : 1 < (t448.length : Int)
      rw [if_pos c16] at H
      have c16b0 := decide_eq_true c16
      have c16b1 : decide (1 < t448.length) = true := decide_eq_true (by omega)
      clear c16
      obtain ⟨t456, A17, H⟩ := ob H
      try dsimp only at H
      by_cases c18 : t456 = true
      subst c18
      replace H := ifT H
      obtain ⟨t458, A19, H⟩ := ob H
      try dsimp only at H
      have H' := Aside0.mk H
      clear H
      rotate_left
      replace c18 := Bool.eq_false_iff.mpr c18
      subst c18
      replace H := ifF H
      have H' := Aside0.mk H
      clear H
      rotate_left
      ·rw [if_neg c16] at H
       exact absurd H (by simp)
      replace c15 := Bool.eq_false_iff.mpr c15
      subst c15
      replace H := ifF H
      have H' := Aside0.mk H
      clear H
      rotate_left
      ·rw [if_neg c13] at H
       exact absurd H (by simp)
      ·rw [if_neg c12] at H
       exact absurd H (by simp)
      rw [if_neg c10] at H
      have c10b0 := decide_eq_false c10
      clear c10
      have H' := Aside0.mk H
      clear H
      rotate_left
      all_goals
       obtain ⟨Ao20, co20, eo20⟩ := Kd.R_slice HO_7.out
       subst eo20
      rotate_left 3
      ·go_wp2
       go_roundg k2
       case measure => have := HK1.out; have := HK2.out; omega
       case rel => exact ⟨(x5_2), (wrap64 (x6_1 + 1)), (by first | rfl | (simp; done) | (simp [*]; done)), (by first | rfl | (simp; done) | (simp [*]; done)), H', ⟨by have := HK1.out; have := HK2.out; omega⟩, ⟨bkp BK442⟩, ⟨bbw1 HB GE442⟩⟩
      all_goals
       obtain ⟨hcz21_0, hcz21_1, hcz21_2, hfz21_0, hfz21_1, hfz21_2⟩ := bz3 BK442
       try go_wp2_with (first | ((with_reducible refine gate_callee (f := 53) rfl ?_); refine gl 39 Try.func53 #[.agg #[.int .i64 a0_0, .int .i64 a0_1, .int .i64 a0_2]] ?_; (with_reducible refine (spec_l03Basis.calls _ _ _ _ _ A11.out).mono ?_); rintro e w22 ⟨v449, rfl, ho0, hb⟩; refine ⟨_, rfl, ?_⟩; replace HO_7 := asd (Kd.R_below (kr HO_7) hb); have HO450 := asd (Kd.R_lower ho0 (bsz1 HB GE442)); replace BK442 := bB BK442 hb; replace HB := bS1 HB GE442 hb; (try clear hb); (try clear hb2); (try clear hk); (try clear hi); (try clear ho0)))
       replace HO_7 := asd (Kd.R_drew HO_7.out)
       replace HO450 := asd (Kd.R_drew HO450.out)
       replace BK442 := asd (blk_drew BK442.out)
       replace HB := asd (below_drew1 HB.out)
       have p451 : 0 ≤ (x9_2 : Int) := od
       have q451 : x9_2 < (t444.length : Int) := od
       obtain ⟨ad451, e451, hx451_0, hx451_1, hx451_2⟩ := at_T33 (Kd.R_reads' HO_7.out).2.2 x9_2 p451 q451
       cases e451
       replace p451 := eq_true p451
       replace q451 := eq_true q451
       obtain ⟨Ao24, co24, eo24⟩ := Kd.R_slice HO450.out
       (first | subst eo24 | (injection eo24 with f1_ f2_ f3_; have f4_ := f1_.symm; have f5_ := f3_.symm; clear f1_ f2_ f3_; subst f4_; subst f5_))
       have p452 : 0 ≤ (0 : Int) := (by omega)
       have q452 : 0 < (t448.length : Int) := od
       obtain ⟨ad452, e452, hx452_0, hx452_1⟩ := at_T43 (Kd.R_reads' HO450.out).2.2 0 p452 q452
       cases e452
       have qi452 : (0 < t448.length) = True := eq_true (by omega)
       (try rw [show ((0 : Int)).toNat = 0 from rfl] at hx452_0)
       (try rw [show 0 * 2 = 0 from rfl] at hx452_0)
       (try rw [Addr.add_zero'] at hx452_0)
       (try rw [show ((0 : Int)).toNat = 0 from rfl] at hx452_1)
       (try rw [show 0 * 2 = 0 from rfl] at hx452_1)
       (try rw [Addr.add_zero'] at hx452_1)
       replace p452 := eq_true p452
       replace q452 := eq_true q452
      rotate_left 2
      ·refine sh 18 (c1 hx451_0 (c1 hx451_1 (c1 hx451_2 (c1 hx452_0 (e1 hx452_1))))) (fun hHeld => ?_); refine with_tabW spec_l17Lean.tab10 spec_l17Lean.bits10 (fun HT_ HW_ => ?_)
       generalize w22.drew = w38 at HO_7 HO450 BK442 HB hx451_0 hx451_1 hx451_2 hx452_0 hx452_1 hHeld ⊢
       refine pu 0 (some 40) (bT 18 1) HT_ ?_
       refine pu 1 (some 41) (bT 18 2) HT_ ?_
       refine pu 2 (some 42) (bT 18 3) HT_ ?_
       refine pu 4 (some 44) (bs 18 23) HT_ ?_
       refine pu 5 (some 45) (bs 18 55) HT_ ?_
       refine ta 3 (some 43) (bT 18 6) HT_ HW_ hHeld ?_
       refine ta 6 (some 46) (bT 18 7) HT_ HW_ hHeld ?_
       refine ro 7 (some 47) (bT 18 8) HT_ (fun K hK => ?_)
       refine gs Try.func54 #[.agg #[.int .i64 ((rd_T33 t444 x9_2).f0), .int .i64 ((rd_T33 t444 x9_2).f1), .int .i64 ((rd_T33 t444 x9_2).f2)], .agg #[.int .i64 ((rd_T43 t448 0).f0), .int .i64 ((rd_T43 t448 0).f1)]] ?_
       with_reducible refine (spec_l03Has.calls _ _ _ _ _ _ _ A14.out).mono ?_
       rintro e w40 ⟨rfl, hb⟩
       have HS0_ := (hb.cell (World.block_lt_of_cell? _ _ (hHeld.1))).trans (hHeld.1)
       have HS1_ := (hb.cell (World.block_lt_of_cell? _ _ (hHeld.2.1))).trans (hHeld.2.1)
       have HS2_ := (hb.cell (World.block_lt_of_cell? _ _ (hHeld.2.2.1))).trans (hHeld.2.2.1)
       have HS3_ := (hb.cell (World.block_lt_of_cell? _ _ (hHeld.2.2.2.1))).trans (hHeld.2.2.2.1)
       have HS4_ := (hb.cell (World.block_lt_of_cell? _ _ (hHeld.2.2.2.2))).trans (hHeld.2.2.2.2)
       refine ⟨_, rfl, ?_⟩
       replace HO_7 := asd (Kd.R_below (kr HO_7) hb)
       replace HO450 := asd (Kd.R_below (kr HO450) hb)
       replace BK442 := bB BK442 hb
       replace HB := bS1 HB GE442 hb
       (try clear hb)
       (try clear hb2)
       (try clear hk)
       (try clear hi)
       refine hK.out _ _ ⟨HS0_, HS1_, HS2_, HS3_, HS4_⟩ (fun hHeld => ?_)
       clear hK K
       refine norm_ (a' := ?_) ?_ ?_
       rotate_left
       ·show Act.put _ (some 47) _ = _
        simp only [Act.put, sA, sB, sC, i64_w, i32_w]
        rfl
       refine pu 8 (some 48) (bT 18 9) HT_ ?_
       refine pf 9 (some 49) (bT 18 10) HT_ ?_
       refine pf 10 (some 50) (bT 18 11) HT_ ?_
       refine pf 11 (some 51) (bT 18 12) HT_ ?_
       refine pf 12 (some 52) (bT 18 13) HT_ ?_
       refine pf 13 (some 53) (bT 18 14) HT_ ?_
       refine pf 14 (some 54) (bT 18 15) HT_ ?_
       refine pf 15 (some 55) (bT 18 16) HT_ ?_
       refine pf 16 (some 56) (bT 18 17) HT_ ?_
       refine pu 17 (some 57) (bT 18 18) HT_ ?_
       refine done_ (done_of HT_.out (by kernel_rfl)) ?_
       try go_wp2
       go_roundg k2
       case measure => have := HK1.out; have := HK2.out; omega
       case rel => exact ⟨(x5_2), (wrap64 (x9_2 + 1)), (by first | rfl | (simp; done) | (simp [*]; done)), (by first | rfl | (simp; done) | (simp [*]; done)), H', ⟨by have := HK1.out; have := HK2.out; omega⟩, ⟨by (with_reducible repeat (first | apply Kd.R_alloc | apply Kd.R_drewN | apply Kd.R_drew)); exact HO_7.out⟩, ⟨bkp BK442⟩, ⟨bbw1 HB GE442⟩⟩
      all_goals
       have p454 : 0 ≤ (x9_2 : Int) := od
       have q454 : x9_2 < (t444.length : Int) := od
       obtain ⟨ad454, e454, hx454_0, hx454_1, hx454_2⟩ := at_T33 (Kd.R_reads' HO_7.out).2.2 x9_2 p454 q454
       obtain rfl : ad451 = ad454 := (by injection e454)
       replace p454 := eq_true p454
       replace q454 := eq_true q454
       have p455 : 0 ≤ (1 : Int) := (by omega)
       have q455 : 1 < (t448.length : Int) := od
       obtain ⟨ad455, e455, hx455_0, hx455_1⟩ := at_T43 (Kd.R_reads' HO450.out).2.2 1 p455 q455
       obtain rfl : ad452 = ad455 := (by injection e455)
       (try simp only [show (1 : Int).toNat = 1 from rfl, Nat.reduceMul, Nat.reduceEqDiff, Go.Addr.add, ↓reduceIte] at hx455_0)
       (try simp only [show (1 : Int).toNat = 1 from rfl, Nat.reduceMul, Nat.reduceEqDiff, Go.Addr.add, ↓reduceIte] at hx455_1)
       have qi455 : (1 < t448.length) = True := eq_true (by omega)
       (try rw [show ((1 : Int)).toNat = 1 from rfl] at hx455_0)
       (try rw [show 1 * 2 = 2 from rfl] at hx455_0)
       (try rw [show ((1 : Int)).toNat = 1 from rfl] at hx455_1)
       (try rw [show 1 * 2 = 2 from rfl] at hx455_1)
       replace p455 := eq_true p455
       replace q455 := eq_true q455
       refine sh 18 (c1 hx451_0 (c1 hx451_1 (c1 hx451_2 (c1 hx452_0 (c1 hx452_1 (c1 hx454_0 (c1 hx454_1 (c1 hx454_2 (c1 hx455_0 (e1 hx455_1)))))))))) (fun hHeld => ?_); refine with_tabW spec_l17Lean.tab10 spec_l17Lean.bits10 (fun HT_ HW_ => ?_)
       generalize w22.drew = w23 at HO_7 HO450 BK442 HB hx451_0 hx451_1 hx451_2 hx452_0 hx452_1 hx454_0 hx454_1 hx454_2 hx455_0 hx455_1 hHeld ⊢
       refine pu 0 (some 40) (bT 18 1) HT_ ?_
       refine pu 1 (some 41) (bT 18 2) HT_ ?_
       refine pu 2 (some 42) (bT 18 3) HT_ ?_
       refine pu 4 (some 44) (bs 18 23) HT_ ?_
       refine pu 5 (some 45) (bs 18 55) HT_ ?_
       refine ta 3 (some 43) (bT 18 6) HT_ HW_ hHeld ?_
       refine ta 6 (some 46) (bT 18 7) HT_ HW_ hHeld ?_
       refine ro 7 (some 47) (bT 18 8) HT_ (fun K hK => ?_)
       refine gs Try.func54 #[.agg #[.int .i64 ((rd_T33 t444 x9_2).f0), .int .i64 ((rd_T33 t444 x9_2).f1), .int .i64 ((rd_T33 t444 x9_2).f2)], .agg #[.int .i64 ((rd_T43 t448 0).f0), .int .i64 ((rd_T43 t448 0).f1)]] ?_
       with_reducible refine (spec_l03Has.calls _ _ _ _ _ _ _ A14.out).mono ?_
       rintro e w25 ⟨rfl, hb⟩
       have HS0_ := (hb.cell (World.block_lt_of_cell? _ _ (hHeld.1))).trans (hHeld.1)
       have HS1_ := (hb.cell (World.block_lt_of_cell? _ _ (hHeld.2.1))).trans (hHeld.2.1)
       have HS2_ := (hb.cell (World.block_lt_of_cell? _ _ (hHeld.2.2.1))).trans (hHeld.2.2.1)
       have HS3_ := (hb.cell (World.block_lt_of_cell? _ _ (hHeld.2.2.2.1))).trans (hHeld.2.2.2.1)
       have HS4_ := (hb.cell (World.block_lt_of_cell? _ _ (hHeld.2.2.2.2.1))).trans (hHeld.2.2.2.2.1)
       have HS5_ := (hb.cell (World.block_lt_of_cell? _ _ (hHeld.2.2.2.2.2.1))).trans (hHeld.2.2.2.2.2.1)
       have HS6_ := (hb.cell (World.block_lt_of_cell? _ _ (hHeld.2.2.2.2.2.2.1))).trans (hHeld.2.2.2.2.2.2.1)
       have HS7_ := (hb.cell (World.block_lt_of_cell? _ _ (hHeld.2.2.2.2.2.2.2.1))).trans (hHeld.2.2.2.2.2.2.2.1)
       have HS8_ := (hb.cell (World.block_lt_of_cell? _ _ (hHeld.2.2.2.2.2.2.2.2.1))).trans (hHeld.2.2.2.2.2.2.2.2.1)
       have HS9_ := (hb.cell (World.block_lt_of_cell? _ _ (hHeld.2.2.2.2.2.2.2.2.2))).trans (hHeld.2.2.2.2.2.2.2.2.2)
       refine ⟨_, rfl, ?_⟩
       replace HO_7 := asd (Kd.R_below (kr HO_7) hb)
       replace HO450 := asd (Kd.R_below (kr HO450) hb)
       replace BK442 := bB BK442 hb
       replace HB := bS1 HB GE442 hb
       (try clear hb)
       (try clear hb2)
       (try clear hk)
       (try clear hi)
       refine hK.out _ _ ⟨HS0_, HS1_, HS2_, HS3_, HS4_, HS5_, HS6_, HS7_, HS8_, HS9_⟩ (fun hHeld => ?_)
       clear hK K
       refine norm_ (a' := ?_) ?_ ?_
       rotate_left
       ·show Act.put _ (some 47) _ = _
        simp only [Act.put, sA, sB, sC, i64_w, i32_w]
        rfl
       refine pu 8 (some 48) (bT 18 9) HT_ ?_
       refine pu 9 (some 49) (bT 18 10) HT_ ?_
       refine pu 10 (some 50) (bT 18 11) HT_ ?_
       refine pu 11 (some 51) (bT 18 12) HT_ ?_
       refine pu 13 (some 53) (bs 18 12287) HT_ ?_
       refine pu 14 (some 54) (bs 18 28671) HT_ ?_
       refine ta 12 (some 52) (bT 18 15) HT_ HW_ hHeld ?_
       refine ta 15 (some 55) (bT 18 16) HT_ HW_ hHeld ?_
       refine ro 16 (some 56) (bT 18 17) HT_ (fun K hK => ?_)
       refine gs Try.func54 #[.agg #[.int .i64 ((rd_T33 t444 x9_2).f0), .int .i64 ((rd_T33 t444 x9_2).f1), .int .i64 ((rd_T33 t444 x9_2).f2)], .agg #[.int .i64 ((rd_T43 t448 1).f0), .int .i64 ((rd_T43 t448 1).f1)]] ?_
       with_reducible refine (spec_l03Has.calls _ _ _ _ _ _ _ A17.out).mono ?_
       rintro e w26 ⟨rfl, hb⟩
       have HS0_ := (hb.cell (World.block_lt_of_cell? _ _ (hHeld.1))).trans (hHeld.1)
       have HS1_ := (hb.cell (World.block_lt_of_cell? _ _ (hHeld.2.1))).trans (hHeld.2.1)
       have HS2_ := (hb.cell (World.block_lt_of_cell? _ _ (hHeld.2.2.1))).trans (hHeld.2.2.1)
       have HS3_ := (hb.cell (World.block_lt_of_cell? _ _ (hHeld.2.2.2.1))).trans (hHeld.2.2.2.1)
       have HS4_ := (hb.cell (World.block_lt_of_cell? _ _ (hHeld.2.2.2.2.1))).trans (hHeld.2.2.2.2.1)
       have HS5_ := (hb.cell (World.block_lt_of_cell? _ _ (hHeld.2.2.2.2.2.1))).trans (hHeld.2.2.2.2.2.1)
       have HS6_ := (hb.cell (World.block_lt_of_cell? _ _ (hHeld.2.2.2.2.2.2.1))).trans (hHeld.2.2.2.2.2.2.1)
       have HS7_ := (hb.cell (World.block_lt_of_cell? _ _ (hHeld.2.2.2.2.2.2.2.1))).trans (hHeld.2.2.2.2.2.2.2.1)
       have HS8_ := (hb.cell (World.block_lt_of_cell? _ _ (hHeld.2.2.2.2.2.2.2.2.1))).trans (hHeld.2.2.2.2.2.2.2.2.1)
       have HS9_ := (hb.cell (World.block_lt_of_cell? _ _ (hHeld.2.2.2.2.2.2.2.2.2))).trans (hHeld.2.2.2.2.2.2.2.2.2)
       refine ⟨_, rfl, ?_⟩
       replace HO_7 := asd (Kd.R_below (kr HO_7) hb)
       replace HO450 := asd (Kd.R_below (kr HO450) hb)
       replace BK442 := bB BK442 hb
       replace HB := bS1 HB GE442 hb
       (try clear hb)
       (try clear hb2)
       (try clear hk)
       (try clear hi)
       refine hK.out _ _ ⟨HS0_, HS1_, HS2_, HS3_, HS4_, HS5_, HS6_, HS7_, HS8_, HS9_⟩ (fun hHeld => ?_)
       clear hK K
       refine norm_ (a' := ?_) ?_ ?_
       rotate_left
       ·show Act.put _ (some 56) _ = _
        simp only [Act.put, sA, sB, sC, i64_w, i32_w]
        rfl
       refine pu 17 (some 57) (bT 18 18) HT_ ?_
       refine done_ (done_of HT_.out (by kernel_rfl)) ?_
      have p457 : 0 ≤ (x9_2 : Int) := od
      have q457 : x9_2 < (t444.length : Int) := od
      obtain ⟨ad457, e457, hx457_0, hx457_1, hx457_2⟩ := at_T33 (Kd.R_reads' HO_7.out).2.2 x9_2 p457 q457
      obtain rfl : ad451 = ad457 := (by injection e457)
      replace p457 := eq_true p457
      replace q457 := eq_true q457
      try go_wp2_with (first | ((with_reducible refine gate_callee (f := 38) rfl ?_); refine gl 64 Try.func38 #[.agg #[.int .i64 ((rd_T33 t444 x9_2).f0), .int .i64 ((rd_T33 t444 x9_2).f1), .int .i64 ((rd_T33 t444 x9_2).f2)], .int .i64 a1] ?_; (with_reducible refine (ih k2 (by have := HK1.out; have := HK2.out; omega) ((rd_T33 t444 x9_2).f0) ((rd_T33 t444 x9_2).f1) ((rd_T33 t444 x9_2).f2) a1 t458 _ A19.out).mono ?_); rintro e w27 ⟨rfl, hb⟩; refine ⟨_, rfl, ?_⟩; replace HO_7 := asd (Kd.R_below (kr HO_7) hb); replace HO450 := asd (Kd.R_below (kr HO450) hb); replace BK442 := bB BK442 hb; replace HB := bS1 HB GE442 hb; (try clear hb)))
      rotate_left
      try go_wp2
      rotate_left
      all_goals
       go_roundg k2
       case measure => have := HK1.out; have := HK2.out; omega
      ·case rel => exact ⟨(wrap64 (x5_2 - t458)), (wrap64 (x9_2 + 1)), (by first | rfl | (simp; done) | (simp [*]; done)), (by first | rfl | (simp; done) | (simp [*]; done)), H', ⟨by have := HK1.out; have := HK2.out; omega⟩, ⟨by (with_reducible repeat (first | apply Kd.R_alloc | apply Kd.R_drewN | apply Kd.R_drew)); exact HO_7.out⟩, ⟨bkp BK442⟩, ⟨bbw1 HB GE442⟩⟩
      ·case rel => exact ⟨(x5_2), (wrap64 (x9_2 + 1)), (by first | rfl | (simp; done) | (simp [*]; done)), (by first | rfl | (simp; done) | (simp [*]; done)), H', ⟨by have := HK1.out; have := HK2.out; omega⟩, ⟨by (with_reducible repeat (first | apply Kd.R_alloc | apply Kd.R_drewN | apply Kd.R_drew)); exact HO_7.out⟩, ⟨bkp BK442⟩, ⟨bbw1 HB GE442⟩⟩
   ·rw [if_neg c6] at H
    have c6b0 := decide_eq_false c6
    clear c6
    obtain rfl := Option.some.inj H
    obtain ⟨hcz42_0, hcz42_1, hcz42_2, hfz42_0, hfz42_1, hfz42_2⟩ := bz3 BK442
    go_wp2
    go_ret
    exact er (bbw1 HB GE442)
/-! ### spec_CountLean: function 21 -/
def spec_CountLean.f (k : Nat) (a0 : Int) (a1_0 : Int) (a1_1 : Int) (a1_2 : Int) (a2 : Int) : Option (Int × Int) := (spec_l17Code.f k a0 a1_0 a1_1 a1_2 true a2 1000000000000).bind fun t460 => (if t460 = 0 then ((spec_l17Lean.f k a1_0 a1_1 a1_2 a2).bind fun t461 => (some (t461, 0))) else (some (0, t460)))
set_option maxHeartbeats 8000000 in
set_option maxRecDepth 100000 in
theorem spec_CountLean.calls (k : Nat) (a0 : Int) (a1_0 : Int) (a1_1 : Int) (a1_2 : Int) (a2 : Int) (r1 : Int) (r2 : Int) (w : World) (h : spec_CountLean.f k a0 a1_0 a1_1 a1_2 a2 = some (r1, r2)) :
  Calls Try.prog 21 #[.int .i64 a0, .agg #[.int .i64 a1_0, .int .i64 a1_1, .int .i64 a1_2], .int .i64 a2] w fun e w' => e = .returned (.tuple #[.int .i64 r1, .int .i64 r2]) ∧ Below w.heap.size w w' := by
 have hu33 := Try.underlying33
 have HB := asd (Below.refl w.heap.size w)
 have H : ((spec_l17Code.f k a0 a1_0 a1_1 a1_2 true a2 1000000000000).bind fun t460 => (if t460 = 0 then ((spec_l17Lean.f k a1_0 a1_1 a1_2 a2).bind fun t461 => (some (t461, 0))) else (some (0, t460)))) = some (r1, r2) := h
 clear h
 obtain ⟨t460, A4, H⟩ := ob H
 try dsimp only at H
 by_cases c5 : t460 = 0
 ·rw [if_pos c5] at H
  have c5b0 : (t460 == 0) = true := beq_iff_eq.mpr c5
  have c5b1 : (t460 != 0) = false := bne_eq_false_iff_eq.mpr c5
  clear c5
  obtain ⟨t461, A6, H⟩ := ob H
  try dsimp only at H
  simp only [Option.some.injEq, Prod.mk.injEq] at H
  obtain ⟨rfl, rfl⟩ := H
  go_enter Try.func21, Try.ntmps21
  go_wp2_with (first | ((with_reducible refine gd 4 rfl ?_); refine bx #[.int .i64 a1_0, .int .i64 a1_1, .int .i64 a1_2] 33 ?_; intro gb459 hg w7 BK459 hb; have GE459 := ngw0 hg HB; replace HB := bS0 HB hb; clear hb hg; obtain ⟨hcz8_0, hcz8_1, hcz8_2, hfz8_0, hfz8_1, hfz8_2⟩ := bz3 BK459) | ((with_reducible refine gate_callee (f := 37) rfl ?_); refine gl 12 Try.func37 #[.int .i64 a0, .agg #[.int .i64 a1_0, .int .i64 a1_1, .int .i64 a1_2], .bool true, .int .i64 a2, .int .i64 1000000000000] ?_; (with_reducible refine (spec_l17Code.calls _ _ _ _ _ _ _ _ _ _ A4.out).mono ?_); rintro e w9 ⟨rfl, hb⟩; refine ⟨_, rfl, ?_⟩; replace BK459 := bB BK459 hb; replace HB := bS1 HB GE459 hb; (try clear hb); obtain ⟨hcz10_0, hcz10_1, hcz10_2, hfz10_0, hfz10_1, hfz10_2⟩ := bz3 BK459) | ((with_reducible refine gate_callee (f := 38) rfl ?_); refine gl 18 Try.func38 #[.agg #[.int .i64 a1_0, .int .i64 a1_1, .int .i64 a1_2], .int .i64 a2] ?_; (with_reducible refine (spec_l17Lean.calls _ _ _ _ _ _ _ A6.out).mono ?_); rintro e w11 ⟨rfl, hb⟩; refine ⟨_, rfl, ?_⟩; replace BK459 := bB BK459 hb; replace HB := bS1 HB GE459 hb; (try clear hb)))
  go_ret2
  exact er (bbw1 HB GE459)
 ·rw [if_neg c5] at H
  have c5b0 : (t460 == 0) = false := beq_eq_false_iff_ne.mpr c5
  have c5b1 : (t460 != 0) = true := bne_iff_ne.mpr c5
  simp only [Option.some.injEq, Prod.mk.injEq] at H
  obtain ⟨rfl, rfl⟩ := H
  go_enter Try.func21, Try.ntmps21
  go_wp2_with (first | ((with_reducible refine gd 4 rfl ?_); refine bx #[.int .i64 a1_0, .int .i64 a1_1, .int .i64 a1_2] 33 ?_; intro gb459 hg w12 BK459 hb; have GE459 := ngw0 hg HB; replace HB := bS0 HB hb; clear hb hg; obtain ⟨hcz13_0, hcz13_1, hcz13_2, hfz13_0, hfz13_1, hfz13_2⟩ := bz3 BK459) | ((with_reducible refine gate_callee (f := 37) rfl ?_); refine gl 12 Try.func37 #[.int .i64 a0, .agg #[.int .i64 a1_0, .int .i64 a1_1, .int .i64 a1_2], .bool true, .int .i64 a2, .int .i64 1000000000000] ?_; (with_reducible refine (spec_l17Code.calls _ _ _ _ _ _ _ _ _ _ A4.out).mono ?_); rintro e w14 ⟨rfl, hb⟩; refine ⟨_, rfl, ?_⟩; replace BK459 := bB BK459 hb; replace HB := bS1 HB GE459 hb; (try clear hb)))
  go_ret2
  exact er (bbw1 HB GE459)

end Go.Proofs.Ytfkdcngpjppnbaa.PA
