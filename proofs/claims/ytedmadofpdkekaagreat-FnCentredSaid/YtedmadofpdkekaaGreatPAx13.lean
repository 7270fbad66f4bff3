/- Walks written by program: each Go function that the law reaches comes to the plain function beside it. -/
import Derived.Test.YtedmadofpdkekaaGreatPAx0
import Derived.Test.YtedmadofpdkekaaGreatPAx1
import Derived.Test.YtedmadofpdkekaaGreatPAx3
import Derived.Test.YtedmadofpdkekaaGreatPAx5
import Derived.Test.YtedmadofpdkekaaGreatPAx6
import Derived.Test.YtedmadofpdkekaaGreatPAx12
namespace Go.Proofs.YtedmadofpdkekaaGreat.PA
open Go.RowKit Go.Proofs.YtedmadofpdkekaaGreatW.PrintWords Go.Proofs.YtedmadofpdkekaaGreatW.PrintLast Go.Proofs.YtedmadofpdkekaaGreatW.PrintMore
attribute [local go_sem] max2_int min2_int max_two min_two max_three min_three max_four min_four   -- for this text's walks alone
set_option linter.unusedVariables false
set_option linter.unusedSimpArgs false

attribute [local go_sem high] eqA25
/-! ### spec_IsSuitable: function 32 -/
def spec_IsSuitable.f (k : Nat) (a0 : Int) (a1_0 : Int) (a1_1 : Int) (a1_2 : Int) (a2_0 : Int) (a2_1 : Int) (a2_2 : Int) (a2_3 : Int) (a2_4 : Int) (a2_5 : Int) : Option (Bool) := (spec_l04Code.f a0 a1_0 a1_1 a1_2).bind fun t486 => (if t486 = 0 then ((spec_IsPointMat.f a0 a2_0 a2_1 a2_2 a2_3).bind fun t487 => (if t487 = true then ((spec_l04Image.f k a2_0 a2_1 a2_2 a2_3 a1_0 a1_1 a1_2).bind fun bt488 => (if (bt488.1 == a1_0 && (bt488.2.1 == a1_1 && (bt488.2.2 == a1_2))) = true then ((spec_IsVec.f a2_4 a2_5).bind fun t491 => (some t491)) else (some false))) else (some false))) else (some false))
def spec_IsSuitable.T1 : Bool × List (List Nat × List Nat) := (true, [([], []), ([], []), ([0, 1], [0, 1]), ([2], [2]), ([3, 2], [3]), ([4], [4]), ([4], [4]), ([6, 4], [4, 6]), ([5, 7, 4, 4], [4, 5, 7]), ([4, 8], [4, 8]), ([9, 8], [9]), ([10], [10]), ([11, 10], [10, 11]), ([10], [10]), ([12, 13, 10, 10], [10, 12, 13]), ([10], [10]), ([14, 15, 10], [10, 14, 15]), ([10, 16], [10, 16]), ([17, 14], [17]), ([18], [18]), ([19, 18], [18, 19]), ([20, 18, 18], [18, 20]), ([18, 21], [18, 21]), ([22, 21, 0, 1, 2, 3, 4, 5, 6, 7, 8, 9, 10, 11, 12, 13, 14, 15, 16, 17, 18, 19, 20, 21, 22], [22])])
def spec_IsSuitable.B1 : List Nat := [0, 0, 3, 7, 15, 31, 31, 95, 255, 511, 1023, 2047, 4095, 2047, 16383, 2047, 65535, 131071, 262143, 524287, 1048575, 2097151, 4194303, 8388607]
theorem spec_IsSuitable.tab1 : rtab .any (opsOf Tryz.f32 1) = spec_IsSuitable.T1 := by kernel_rfl
theorem spec_IsSuitable.bits1 : waitsOk spec_IsSuitable.T1.2 spec_IsSuitable.B1 = true := by kernel_rfl
set_option maxHeartbeats 8000000 in
set_option maxRecDepth 100000 in
theorem spec_IsSuitable.calls (k : Nat) (a0 : Int) (a1_0 : Int) (a1_1 : Int) (a1_2 : Int) (a2_0 : Int) (a2_1 : Int) (a2_2 : Int) (a2_3 : Int) (a2_4 : Int) (a2_5 : Int) (r : Bool) (w : World) (h : spec_IsSuitable.f k a0 a1_0 a1_1 a1_2 a2_0 a2_1 a2_2 a2_3 a2_4 a2_5 = some r) :
  Calls Tryz.prog 32 #[.int .i64 a0, .agg #[.int .i64 a1_0, .int .i64 a1_1, .int .i64 a1_2], .agg #[.int .i64 a2_0, .int .i64 a2_1, .int .i64 a2_2, .int .i64 a2_3, .int .i64 a2_4, .int .i64 a2_5]] w fun e w' => e = .returned (.bool r) ∧ Below w.heap.size w w' := by
 have hu25 := Tryz.underlying25
 have hu37 := Tryz.underlying37
 have hu27 := Tryz.underlying27
 have hu31 := Tryz.underlying31
 have HB := asd (Below.refl w.heap.size w)
 have H : ((spec_l04Code.f a0 a1_0 a1_1 a1_2).bind fun t486 => (if t486 = 0 then ((spec_IsPointMat.f a0 a2_0 a2_1 a2_2 a2_3).bind fun t487 => (if t487 = true then ((spec_l04Image.f k a2_0 a2_1 a2_2 a2_3 a1_0 a1_1 a1_2).bind fun bt488 => (if (bt488.1 == a1_0 && (bt488.2.1 == a1_1 && (bt488.2.2 == a1_2))) = true then ((spec_IsVec.f a2_4 a2_5).bind fun t491 => (some t491)) else (some false))) else (some false))) else (some false))) = some r := h
 clear h
 obtain ⟨t486, A4, H⟩ := ob H
 try dsimp only at H
 by_cases c5 : t486 = 0
 rw [if_pos c5] at H
 have c5b0 : (t486 == 0) = true := beq_iff_eq.mpr c5
 have c5b1 : (t486 != 0) = false := bne_eq_false_iff_eq.mpr c5
 clear c5
 obtain ⟨t487, A6, H⟩ := ob H
 try dsimp only at H
 by_cases c7 : t487 = true
 subst c7
 replace H := ifT H
 obtain ⟨⟨t488, t489, t490⟩, A8, H⟩ := ob H
 try dsimp only at H
 by_cases c9 : (t488 == a1_0 && (t489 == a1_1 && (t490 == a1_2))) = true
 rw [if_pos c9] at H
 have c9b0 := c9
 (try (have c9b1 : decide (t488 = a1_0 && (t489 == a1_1 && (t490 == a1_2))) = true := by simpa using c9))
 (try (have c9b2 : (t488 == a1_0 && (t489 == a1_1 && (t490 == a1_2))) = true := by simpa using c9))
 clear c9
 obtain ⟨t491, A10, H⟩ := ob H
 try dsimp only at H
 obtain rfl := Option.some.inj H
 rotate_left
 rw [if_neg c9] at H
 have c9b0 : (t488 == a1_0 && (t489 == a1_1 && (t490 == a1_2))) = false := by simpa using c9
 (try (have c9b1 : decide (t488 = a1_0 && (t489 == a1_1 && (t490 == a1_2))) = false := by simpa using c9))
 (try (have c9b2 : (t488 == a1_0 && (t489 == a1_1 && (t490 == a1_2))) = false := by simpa using c9))
 (try (have c9b3 : ¬ (t488 = a1_0 && (t489 == a1_1 && (t490 == a1_2))) := by simpa using c9))
 clear c9
 obtain rfl := Option.some.inj H
 rotate_left
 replace c7 := Bool.eq_false_iff.mpr c7
 subst c7
 replace H := ifF H
 obtain rfl := Option.some.inj H
 rotate_left
 rw [if_neg c5] at H
 have c5b0 : (t486 == 0) = false := beq_eq_false_iff_ne.mpr c5
 have c5b1 : (t486 != 0) = true := bne_iff_ne.mpr c5
 obtain rfl := Option.some.inj H
 rotate_left
 all_goals
  go_enter Tryz.func32, Tryz.ntmps32
  try go_wp2_with (first | ((with_reducible refine gd 4 rfl ?_); refine bx #[.int .i64 a1_0, .int .i64 a1_1, .int .i64 a1_2] 25 ?_; intro gb484 hg w11 BK484 hb; have GE484 := ngw0 hg HB; replace HB := bS0 HB hb; clear hb hg) | ((with_reducible refine gd 5 rfl ?_); refine bx #[.int .i64 a2_0, .int .i64 a2_1, .int .i64 a2_2, .int .i64 a2_3, .int .i64 a2_4, .int .i64 a2_5] 37 ?_; intro gb485 hg w12 BK485 hb; have GE485 := ngw1 hg HB GE484; replace HB := bS1 HB GE484 hb; have NB484_485 := nlt hg BK484; have NB485_484 := nsy (nlt hg BK484); replace BK484 := bB BK484 hb; clear hb hg))
  replace BK484 := asd (blk_drew BK484.out)
  replace BK485 := asd (blk_drew BK485.out)
  replace HB := asd (below_drew1 HB.out)
 refine sh 24 (cb3 BK484 (eb6 BK485)) (fun hHeld => ?_); refine with_tabW spec_IsSuitable.tab1 spec_IsSuitable.bits1 (fun HT_ HW_ => ?_)
 rotate_left
 refine sh 24 (cb3 BK484 (eb6 BK485)) (fun hHeld => ?_); refine with_tabW spec_IsSuitable.tab1 spec_IsSuitable.bits1 (fun HT_ HW_ => ?_)
 rotate_left
 refine sh 24 (cb3 BK484 (eb6 BK485)) (fun hHeld => ?_); refine with_tabW spec_IsSuitable.tab1 spec_IsSuitable.bits1 (fun HT_ HW_ => ?_)
 rotate_left
 refine sh 24 (eb3 BK484) (fun hHeld => ?_); refine with_tabW spec_IsSuitable.tab1 spec_IsSuitable.bits1 (fun HT_ HW_ => ?_)
 rotate_left
 all_goals
  generalize w12.drew = w13 at BK484 BK485 HB hHeld ⊢
  refine pu 0 (some 7) (bT 24 1) HT_ ?_
  refine ta 1 (some 8) (bT 24 2) HT_ HW_ hHeld ?_
  refine ro 2 (some 9) (bT 24 3) HT_ (fun K hK => ?_)
  refine gs Tryz.func52 #[.int .i64 a0, .agg #[.int .i64 a1_0, .int .i64 a1_1, .int .i64 a1_2]] ?_
  with_reducible refine (spec_l04Code.calls _ _ _ _ _ _ A4.out).mono ?_
  rintro e w14 ⟨rfl, hb⟩
  refine ⟨_, rfl, ?_⟩
  replace BK484 := bB BK484 hb
  replace BK485 := bB BK485 hb
  replace HB := bS2 HB GE484 GE485 hb
  (try clear hb)
  (try clear hb2)
  (try clear hk)
  (try clear hi)
 rotate_left 3
 ·refine hK.out _ _ (eb3 BK484).out (fun hHeld => ?_)
  clear hK K
  refine norm_ (a' := ?_) ?_ ?_
  rotate_left
  ·show Act.put _ (some 9) _ = _
   simp only [Act.put, sA, sB, sC, i64_w, i32_w]
   rfl
  refine pu 3 (some 10) (bT 24 4) HT_ ?_
  refine pu 4 (some 11) (bT 24 5) HT_ ?_
  refine pf 5 (some 12) (bT 24 6) HT_ ?_
  refine pf 6 (some 13) (bT 24 7) HT_ ?_
  refine pf 7 (some 14) (bT 24 8) HT_ ?_
  refine pf 8 (some 15) (bT 24 9) HT_ ?_
  refine pu 9 (some 16) (bT 24 10) HT_ ?_
  refine pu 10 (some 17) (bT 24 11) HT_ ?_
  refine pf 11 (some 18) (bT 24 12) HT_ ?_
  refine pf 12 (some 19) (bT 24 13) HT_ ?_
  refine pf 13 (some 20) (bT 24 14) HT_ ?_
  refine pf 14 (some 21) (bT 24 15) HT_ ?_
  refine pf 15 (some 22) (bT 24 16) HT_ ?_
  refine pf 16 (some 23) (bT 24 17) HT_ ?_
  refine pu 17 (some 24) (bT 24 18) HT_ ?_
  refine pu 18 (some 25) (bT 24 19) HT_ ?_
  refine pf 19 (some 26) (bT 24 20) HT_ ?_
  refine pf 20 (some 27) (bT 24 21) HT_ ?_
  refine pf 21 (some 28) (bT 24 22) HT_ ?_
  refine pu 22 (some 29) (bT 24 23) HT_ ?_
  refine pu 23 (some 6) (bT 24 24) HT_ ?_
  refine done_ (done_of HT_.out (by kernel_rfl)) ?_
  try go_wp2
  go_ret
  exact er (bbw2 HB GE484 GE485)
 all_goals
  refine hK.out _ _ (cb3 BK484 (eb6 BK485)).out (fun hHeld => ?_)
  clear hK K
  refine norm_ (a' := ?_) ?_ ?_
  rotate_left
  ·show Act.put _ (some 9) _ = _
   simp only [Act.put, sA, sB, sC, i64_w, i32_w]
   rfl
  refine pu 3 (some 10) (bT 24 4) HT_ ?_
  refine pu 4 (some 11) (bT 24 5) HT_ ?_
  refine pu 5 (some 12) (bT 24 6) HT_ ?_
  refine pu 6 (some 13) (bT 24 7) HT_ ?_
  refine ta 7 (some 14) (bT 24 8) HT_ HW_ hHeld ?_
  refine ro 8 (some 15) (bT 24 9) HT_ (fun K hK => ?_)
  refine gs Tryz.func66 #[.int .i64 a0, .agg #[.int .i64 a2_0, .int .i64 a2_1, .int .i64 a2_2, .int .i64 a2_3]] ?_
  with_reducible refine (spec_IsPointMat.calls _ _ _ _ _ _ _ A6.out).mono ?_
  rintro e w15 ⟨rfl, hb⟩
  refine ⟨_, rfl, ?_⟩
  replace BK484 := bB BK484 hb
  replace BK485 := bB BK485 hb
  replace HB := bS2 HB GE484 GE485 hb
  (try clear hb)
  (try clear hb2)
  (try clear hk)
  (try clear hi)
  refine hK.out _ _ (cb3 BK484 (eb6 BK485)).out (fun hHeld => ?_)
  clear hK K
  refine norm_ (a' := ?_) ?_ ?_
  rotate_left
  ·show Act.put _ (some 15) _ = _
   simp only [Act.put, sA, sB, sC, i64_w, i32_w]
   rfl
  refine pu 9 (some 16) (bT 24 10) HT_ ?_
  refine pu 10 (some 17) (bT 24 11) HT_ ?_
 rotate_left 2
 ·refine pf 11 (some 18) (bT 24 12) HT_ ?_
  refine pf 12 (some 19) (bT 24 13) HT_ ?_
  refine pf 13 (some 20) (bT 24 14) HT_ ?_
  refine pf 14 (some 21) (bT 24 15) HT_ ?_
  refine pf 15 (some 22) (bT 24 16) HT_ ?_
  refine pf 16 (some 23) (bT 24 17) HT_ ?_
  refine pu 17 (some 24) (bT 24 18) HT_ ?_
  refine pu 18 (some 25) (bT 24 19) HT_ ?_
  refine pf 19 (some 26) (bT 24 20) HT_ ?_
  refine pf 20 (some 27) (bT 24 21) HT_ ?_
  refine pf 21 (some 28) (bT 24 22) HT_ ?_
  refine pu 22 (some 29) (bT 24 23) HT_ ?_
  refine pu 23 (some 6) (bT 24 24) HT_ ?_
  refine done_ (done_of HT_.out (by kernel_rfl)) ?_
  try go_wp2
  go_ret
  exact er (bbw2 HB GE484 GE485)
 all_goals
  refine pu 11 (some 18) (bT 24 12) HT_ ?_
  refine ta 12 (some 19) (bT 24 13) HT_ HW_ hHeld ?_
  refine ta 13 (some 20) (bT 24 14) HT_ HW_ hHeld ?_
  refine ta 15 (some 22) (bs 24 49151) HT_ HW_ hHeld ?_
  refine ro 14 (some 21) (bT 24 16) HT_ (fun K hK => ?_)
  refine gs Tryz.func67 #[.agg #[.int .i64 a2_0, .int .i64 a2_1, .int .i64 a2_2, .int .i64 a2_3], .agg #[.int .i64 a1_0, .int .i64 a1_1, .int .i64 a1_2]] ?_
  with_reducible refine (spec_l04Image.calls _ _ _ _ _ _ _ _ _ _ _ _ A8.out).mono ?_
  rintro e w16 ⟨rfl, hb⟩
  refine ⟨_, rfl, ?_⟩
  replace BK484 := bB BK484 hb
  replace BK485 := bB BK485 hb
  replace HB := bS2 HB GE484 GE485 hb
  (try clear hb)
  (try clear hb2)
  (try clear hk)
  (try clear hi)
  refine hK.out _ _ (cb3 BK484 (eb6 BK485)).out (fun hHeld => ?_)
  clear hK K
  refine norm_ (a' := ?_) ?_ ?_
  rotate_left
  ·show Act.put _ (some 21) _ = _
   simp only [Act.put, sA, sB, sC, i64_w, i32_w]
   rfl
  refine pu 16 (some 23) (bT 24 17) HT_ ?_
  refine pu 17 (some 24) (bT 24 18) HT_ ?_
  refine pu 18 (some 25) (bT 24 19) HT_ ?_
 focus
  refine pu 19 (some 26) (bT 24 20) HT_ ?_
  refine ta 20 (some 27) (bT 24 21) HT_ HW_ hHeld ?_
  refine ro 21 (some 28) (bT 24 22) HT_ (fun K hK => ?_)
  refine gs Tryz.func68 #[.agg #[.int .i64 a2_4, .int .i64 a2_5]] ?_
  with_reducible refine (spec_IsVec.calls _ _ _ _ A10.out).mono ?_
  rintro e w17 ⟨rfl, hb⟩
  refine ⟨_, rfl, ?_⟩
  replace BK484 := bB BK484 hb
  replace BK485 := bB BK485 hb
  replace HB := bS2 HB GE484 GE485 hb
  (try clear hb)
  (try clear hb2)
  (try clear hk)
  (try clear hi)
  refine hK.out _ _ (cb3 BK484 (eb6 BK485)).out (fun hHeld => ?_)
  clear hK K
  refine norm_ (a' := ?_) ?_ ?_
  rotate_left
  ·show Act.put _ (some 28) _ = _
   simp only [Act.put, sA, sB, sC, i64_w, i32_w]
   rfl
  refine pu 22 (some 29) (bT 24 23) HT_ ?_
 rotate_left
 refine pf 19 (some 26) (bT 24 20) HT_ ?_
 refine pf 20 (some 27) (bT 24 21) HT_ ?_
 refine pf 21 (some 28) (bT 24 22) HT_ ?_
 refine pu 22 (some 29) (bT 24 23) HT_ ?_
 rotate_left
 all_goals
  refine pu 23 (some 6) (bT 24 24) HT_ ?_
  refine done_ (done_of HT_.out (by kernel_rfl)) ?_
  try go_wp2
  go_ret
  exact er (bbw2 HB GE484 GE485)

attribute [local go_sem high] eqA31
/-! ### spec_l11Mirror: function 24 -/
def spec_l11Mirror.f (k : Nat) (a0 : Int) (a1_0 : Int) (a1_1 : Int) (a1_2 : Int) (a2_0 : Int) (a2_1 : Int) (a2_2 : Int) (a2_3 : Int) : Option (Bool) := (spec_IsSuitable.f k a0 a1_0 a1_1 a1_2 a2_0 a2_1 a2_2 a2_3 0 0).bind fun t494 => (if t494 = true then ((spec_l02Det.f a2_0 a2_1 a2_2 a2_3).bind fun t495 => (some (t495 == (-1)))) else (some false))
set_option maxHeartbeats 8000000 in
set_option maxRecDepth 100000 in
theorem spec_l11Mirror.calls (k : Nat) (a0 : Int) (a1_0 : Int) (a1_1 : Int) (a1_2 : Int) (a2_0 : Int) (a2_1 : Int) (a2_2 : Int) (a2_3 : Int) (r : Bool) (w : World) (h : spec_l11Mirror.f k a0 a1_0 a1_1 a1_2 a2_0 a2_1 a2_2 a2_3 = some r) :
  Calls Tryz.prog 24 #[.int .i64 a0, .agg #[.int .i64 a1_0, .int .i64 a1_1, .int .i64 a1_2], .agg #[.int .i64 a2_0, .int .i64 a2_1, .int .i64 a2_2, .int .i64 a2_3]] w fun e w' => e = .returned (.bool r) ∧ Below w.heap.size w w' := by
 have hu25 := Tryz.underlying25
 have hu27 := Tryz.underlying27
 have hu37 := Tryz.underlying37
 have HB := asd (Below.refl w.heap.size w)
 have H : ((spec_IsSuitable.f k a0 a1_0 a1_1 a1_2 a2_0 a2_1 a2_2 a2_3 0 0).bind fun t494 => (if t494 = true then ((spec_l02Det.f a2_0 a2_1 a2_2 a2_3).bind fun t495 => (some (t495 == (-1)))) else (some false))) = some r := h
 clear h
 obtain ⟨t494, A4, H⟩ := ob H
 try dsimp only at H
 by_cases c5 : t494 = true
 ·subst c5
  replace H := ifT H
  obtain ⟨t495, A6, H⟩ := ob H
  try dsimp only at H
  obtain rfl := Option.some.inj H
  go_enter Tryz.func24, Tryz.ntmps24
  go_wp2_with (first | ((with_reducible refine gd 4 rfl ?_); refine bx #[.int .i64 a1_0, .int .i64 a1_1, .int .i64 a1_2] 25 ?_; intro gb492 hg w7 BK492 hb; have GE492 := ngw0 hg HB; replace HB := bS0 HB hb; clear hb hg) | ((with_reducible refine gd 5 rfl ?_); refine bx #[.int .i64 a2_0, .int .i64 a2_1, .int .i64 a2_2, .int .i64 a2_3] 27 ?_; intro gb493 hg w8 BK493 hb; have GE493 := ngw1 hg HB GE492; replace HB := bS1 HB GE492 hb; have NB492_493 := nlt hg BK492; have NB493_492 := nsy (nlt hg BK492); replace BK492 := bB BK492 hb; clear hb hg; have hnb9 := NB492_493.out; have hnc9 := NB493_492.out; obtain ⟨hcz10_0, hcz10_1, hcz10_2, hfz10_0, hfz10_1, hfz10_2⟩ := bz3 BK492; obtain ⟨hcz11_0, hcz11_1, hcz11_2, hcz11_3, hfz11_0, hfz11_1, hfz11_2, hfz11_3⟩ := bz4 BK493) | ((with_reducible refine gate_callee (f := 32) rfl ?_); refine gl 11 Tryz.func32 #[.int .i64 a0, .agg #[.int .i64 a1_0, .int .i64 a1_1, .int .i64 a1_2], .agg #[.int .i64 a2_0, .int .i64 a2_1, .int .i64 a2_2, .int .i64 a2_3, .int .i64 0, .int .i64 0]] ?_; (with_reducible refine (spec_IsSuitable.calls _ _ _ _ _ _ _ _ _ _ _ _ _ A4.out).mono ?_); rintro e w12 ⟨rfl, hb⟩; refine ⟨_, rfl, ?_⟩; replace BK492 := bB BK492 hb; replace BK493 := bB BK493 hb; replace HB := bS2 HB GE492 GE493 hb; (try clear hb); obtain ⟨hcz13_0, hcz13_1, hcz13_2, hcz13_3, hfz13_0, hfz13_1, hfz13_2, hfz13_3⟩ := bz4 BK493) | (go_at_call 33; (with_reducible refine (spec_l02Det.calls _ _ _ _ _ _ A6.out).mono ?_); rintro e w14 ⟨rfl, hb⟩; replace BK492 := bB BK492 hb; replace BK493 := bB BK493 hb; replace HB := bS2 HB GE492 GE493 hb; (try clear hb)))
  go_ret
  exact er (bbw2 HB GE492 GE493)
 ·replace c5 := Bool.eq_false_iff.mpr c5
  subst c5
  replace H := ifF H
  obtain rfl := Option.some.inj H
  go_enter Tryz.func24, Tryz.ntmps24
  go_wp2_with (first | ((with_reducible refine gd 4 rfl ?_); refine bx #[.int .i64 a1_0, .int .i64 a1_1, .int .i64 a1_2] 25 ?_; intro gb492 hg w15 BK492 hb; have GE492 := ngw0 hg HB; replace HB := bS0 HB hb; clear hb hg) | ((with_reducible refine gd 5 rfl ?_); refine bx #[.int .i64 a2_0, .int .i64 a2_1, .int .i64 a2_2, .int .i64 a2_3] 27 ?_; intro gb493 hg w16 BK493 hb; have GE493 := ngw1 hg HB GE492; replace HB := bS1 HB GE492 hb; have NB492_493 := nlt hg BK492; have NB493_492 := nsy (nlt hg BK492); replace BK492 := bB BK492 hb; clear hb hg; have hnb17 := NB492_493.out; have hnc17 := NB493_492.out; obtain ⟨hcz18_0, hcz18_1, hcz18_2, hfz18_0, hfz18_1, hfz18_2⟩ := bz3 BK492; obtain ⟨hcz19_0, hcz19_1, hcz19_2, hcz19_3, hfz19_0, hfz19_1, hfz19_2, hfz19_3⟩ := bz4 BK493) | ((with_reducible refine gate_callee (f := 32) rfl ?_); refine gl 11 Tryz.func32 #[.int .i64 a0, .agg #[.int .i64 a1_0, .int .i64 a1_1, .int .i64 a1_2], .agg #[.int .i64 a2_0, .int .i64 a2_1, .int .i64 a2_2, .int .i64 a2_3, .int .i64 0, .int .i64 0]] ?_; (with_reducible refine (spec_IsSuitable.calls _ _ _ _ _ _ _ _ _ _ _ _ _ A4.out).mono ?_); rintro e w20 ⟨rfl, hb⟩; refine ⟨_, rfl, ?_⟩; replace BK492 := bB BK492 hb; replace BK493 := bB BK493 hb; replace HB := bS2 HB GE492 GE493 hb; (try clear hb)))
  go_ret
  exact er (bbw2 HB GE492 GE493)
/-! ### spec_l01Less: function 92 -/
def spec_l01Less.f (a0_0 : Int) (a0_1 : Int) (a1_0 : Int) (a1_1 : Int) : Option (Bool) := if a0_0 < a1_0 then (some true) else (if a0_0 = a1_0 then (some (decide (a0_1 < a1_1))) else (some false))
set_option maxHeartbeats 8000000 in
set_option maxRecDepth 100000 in
theorem spec_l01Less.calls (a0_0 : Int) (a0_1 : Int) (a1_0 : Int) (a1_1 : Int) (r : Bool) (w : World) (h : spec_l01Less.f a0_0 a0_1 a1_0 a1_1 = some r) :
  Calls Tryz.prog 92 #[.agg #[.int .i64 a0_0, .int .i64 a0_1], .agg #[.int .i64 a1_0, .int .i64 a1_1]] w fun e w' => e = .returned (.bool r) ∧ Below w.heap.size w w' := by
 have hu31 := Tryz.underlying31
 have HB := asd (Below.refl w.heap.size w)
 have H : (if a0_0 < a1_0 then (some true) else (if a0_0 = a1_0 then (some (decide (a0_1 < a1_1))) else (some false))) = some r := h
 clear h
 by_cases c3 : a0_0 < a1_0
 rw [if_pos c3] at H
 have c3b0 := decide_eq_true c3
 clear c3
 obtain rfl := Option.some.inj H
 rotate_left
 rw [if_neg c3] at H
 have c3b0 := decide_eq_false c3
 clear c3
 by_cases c9 : a0_0 = a1_0
 rw [if_pos c9] at H
 have c9b0 : (a0_0 == a1_0) = true := beq_iff_eq.mpr c9
 have c9b1 : (a0_0 != a1_0) = false := bne_eq_false_iff_eq.mpr c9
 clear c9
 obtain rfl := Option.some.inj H
 rotate_left
 rw [if_neg c9] at H
 have c9b0 : (a0_0 == a1_0) = false := beq_eq_false_iff_ne.mpr c9
 have c9b1 : (a0_0 != a1_0) = true := bne_iff_ne.mpr c9
 obtain rfl := Option.some.inj H
 rotate_left
 all_goals
  go_enter Tryz.func92, Tryz.ntmps92
  go_wp2_with (first | ((with_reducible refine gd 2 rfl ?_); refine bx #[.int .i64 a0_0, .int .i64 a0_1] 31 ?_; intro gb496 hg w4 BK496 hb; have GE496 := ngw0 hg HB; replace HB := bS0 HB hb; clear hb hg) | ((with_reducible refine gd 3 rfl ?_); refine bx #[.int .i64 a1_0, .int .i64 a1_1] 31 ?_; intro gb497 hg w5 BK497 hb; have GE497 := ngw1 hg HB GE496; replace HB := bS1 HB GE496 hb; have NB496_497 := nlt hg BK496; have NB497_496 := nsy (nlt hg BK496); replace BK496 := bB BK496 hb; clear hb hg; have hnb6 := NB496_497.out; have hnc6 := NB497_496.out; obtain ⟨hcz7_0, hcz7_1, hfz7_0, hfz7_1⟩ := bz2 BK496; obtain ⟨hcz8_0, hcz8_1, hfz8_0, hfz8_1⟩ := bz2 BK497))
  go_ret
  exact er (bbw2 HB GE496 GE497)
/-! ### spec_l02Axis: function 53 -/
def spec_l02Axis.j0 : Nat → Int → Int → Option (Int × Int)
 | 0, _, _ => none
 | k + 1, x501000, x501001 => (spec_l01Divisor.f k x501000 x501001).bind fun t501 => (if t501 = 0 then (none) else ((spec_l01Less.f (wrap64 (Int.tdiv x501000 t501)) (wrap64 (Int.tdiv x501001 t501)) 0 0).bind fun t502 => (if t502 = true then ((spec_l01Scale.f (wrap64 (Int.tdiv x501000 t501)) (wrap64 (Int.tdiv x501001 t501)) (-1)).bind fun bt503 => (some (bt503.1, bt503.2))) else (some (wrap64 (Int.tdiv x501000 t501), wrap64 (Int.tdiv x501001 t501))))))
def spec_l02Axis.f (k : Nat) (a0_0 : Int) (a0_1 : Int) (a0_2 : Int) (a0_3 : Int) : Option (Int × Int) := if ((wrap64 (a0_0 + 1)) == 0 && (a0_2 == 0)) = true then (spec_l02Axis.j0 k a0_1 (wrap64 (a0_3 + 1))) else (spec_l02Axis.j0 k (wrap64 (a0_0 + 1)) a0_2)
def spec_l02Axis.T5 : Bool × List (List Nat × List Nat) := (true, [([], []), ([0], [0]), ([], []), ([1, 2], [1, 2]), ([], []), ([4], [4]), ([], []), ([5, 6], [5, 6]), ([3, 7], [3, 7]), ([8, 0, 1, 2, 3, 4, 5, 6, 7, 8], [8])])
def spec_l02Axis.B5 : List Nat := [0, 1, 0, 7, 0, 16, 0, 112, 255, 511]
theorem spec_l02Axis.tab5 : rtab .any (opsOf Tryz.f53 5) = spec_l02Axis.T5 := by kernel_rfl
theorem spec_l02Axis.bits5 : waitsOk spec_l02Axis.T5.2 spec_l02Axis.B5 = true := by kernel_rfl
set_option maxHeartbeats 8000000 in
set_option maxRecDepth 100000 in
theorem spec_l02Axis.calls (k : Nat) (a0_0 : Int) (a0_1 : Int) (a0_2 : Int) (a0_3 : Int) (r1 : Int) (r2 : Int) (w : World) (h : spec_l02Axis.f k a0_0 a0_1 a0_2 a0_3 = some (r1, r2)) :
  Calls Tryz.prog 53 #[.agg #[.int .i64 a0_0, .int .i64 a0_1, .int .i64 a0_2, .int .i64 a0_3]] w fun e w' => e = .returned (.agg #[.int .i64 r1, .int .i64 r2]) ∧ Below w.heap.size w w' := by
 have hu27 := Tryz.underlying27
 have hu31 := Tryz.underlying31
 have HB := asd (Below.refl w.heap.size w)
 have H : (if ((wrap64 (a0_0 + 1)) == 0 && (a0_2 == 0)) = true then (spec_l02Axis.j0 k a0_1 (wrap64 (a0_3 + 1))) else (spec_l02Axis.j0 k (wrap64 (a0_0 + 1)) a0_2)) = some (r1, r2) := h
 clear h
 have HC2 := Aside0.mk H
 clear H
 go_enter Tryz.func53, Tryz.ntmps53
 go_upto_if 13 with (first | ((with_reducible refine gd 1 rfl ?_); refine bx #[.int .i64 a0_0, .int .i64 a0_1, .int .i64 a0_2, .int .i64 a0_3] 27 ?_; intro gb498 hg w3 BK498 hb; have GE498 := ngw0 hg HB; replace HB := bS0 HB hb; clear hb hg) | ((with_reducible refine gd 2 rfl ?_); refine bx #[.int .i64 0, .int .i64 0] 31 ?_; intro gb499 hg w4 BK499 hb; have GE499 := ngw1 hg HB GE498; replace HB := bS1 HB GE498 hb; have NB498_499 := nlt hg BK498; have NB499_498 := nsy (nlt hg BK498); replace BK498 := bB BK498 hb; clear hb hg; have hnb5 := NB498_499.out; have hnc5 := NB499_498.out; obtain ⟨hcz6_0, hcz6_1, hcz6_2, hcz6_3, hfz6_0, hfz6_1, hfz6_2, hfz6_3⟩ := bz4 BK498) | ((with_reducible refine gd 3 rfl ?_); refine bx #[.int .i64 0, .int .i64 0] 31 ?_; intro gb500 hg w7 BK500 hb; have GE500 := ngw2 hg HB GE498 GE499; replace HB := bS2 HB GE498 GE499 hb; have NB498_500 := nlt hg BK498; have NB500_498 := nsy (nlt hg BK498); replace BK498 := bB BK498 hb; have NB499_500 := nlt hg BK499; have NB500_499 := nsy (nlt hg BK499); replace BK499 := bB BK499 hb; clear hb hg; have hnb8 := NB500_498.out; have hnc8 := NB498_500.out; have hnb9 := NB500_499.out; have hnc9 := NB499_500.out; obtain ⟨hcz10_0, hcz10_1, hfz10_0, hfz10_1⟩ := bz2 BK500))
 (try simp only [Act.put, sA, sB, sC])
 go_cut [] (fun wc => ∃ (kq : Nat) (x501000_1 : Int) (x501001_1 : Int), Aside0 (spec_l02Axis.j0 kq x501000_1 x501001_1 = some (r1, r2)) ∧ Aside0 (kq ≤ k) ∧ Aside0 (wc.heap[gb498]? = some (.cells #[.int .i64 a0_0, .int .i64 a0_1, .int .i64 a0_2, .int .i64 a0_3] 27 (0, 0))) ∧ Aside0 (wc.heap[gb499]? = some (.cells #[.int .i64 0, .int .i64 0] 31 (0, 0))) ∧ Aside0 (wc.heap[gb500]? = some (.cells #[.int .i64 x501000_1, .int .i64 x501001_1] 31 (0, 0))) ∧ Aside0 (Below w.heap.size w wc))
 case first =>
  have H := HC2.out
  clear HC2
  by_cases c11 : ((wrap64 (a0_0 + 1)) == 0 && (a0_2 == 0)) = true
  ·rw [if_pos c11] at H
   have c11b0 := c11
   (try (have c11b1 : decide ((wrap64 (a0_0 + 1)) = 0 && (a0_2 == 0)) = true := by simpa using c11))
   (try (have c11b2 : ((wrap64 (a0_0 + 1)) == 0 && (a0_2 == 0)) = true := by simpa using c11))
   clear c11
   (first | rw [c11b0] | (simp only [i64_w, i32_w]; rw [c11b0]) | skip)
   have H' := Aside0.mk H
   clear H
   have hnb12 := NB498_499.out
   have hnc12 := NB499_498.out
   have hnb13 := NB498_500.out
   have hnc13 := NB500_498.out
   obtain ⟨hcz14_0, hcz14_1, hcz14_2, hcz14_3, hfz14_0, hfz14_1, hfz14_2, hfz14_3⟩ := bz4 BK498
   have hnb15 := NB500_499.out
   have hnc15 := NB499_500.out
   obtain ⟨hcz16_0, hcz16_1, hfz16_0, hfz16_1⟩ := bz2 BK500
   go_wp2
   go_meet
   case rel => exact ⟨_, (a0_1), (wrap64 (a0_3 + 1)), H', ⟨by first | omega | exact Nat.le_refl _⟩, ⟨bq1 BK498 NB498_500⟩, ⟨bq1 BK499 NB499_500⟩, ⟨bq0 BK500⟩, ⟨bbw3 HB GE498 GE499 GE500⟩⟩
  ·rw [if_neg c11] at H
   have c11b0 : ((wrap64 (a0_0 + 1)) == 0 && (a0_2 == 0)) = false := by simpa using c11
   (try (have c11b1 : decide ((wrap64 (a0_0 + 1)) = 0 && (a0_2 == 0)) = false := by simpa using c11))
   (try (have c11b2 : ((wrap64 (a0_0 + 1)) == 0 && (a0_2 == 0)) = false := by simpa using c11))
   (try (have c11b3 : ¬ ((wrap64 (a0_0 + 1)) = 0 && (a0_2 == 0)) := by simpa using c11))
   clear c11
   (first | rw [c11b0] | (simp only [i64_w, i32_w]; rw [c11b0]) | skip)
   have H' := Aside0.mk H
   clear H
   go_wp2
   go_meet
   case rel => exact ⟨_, (wrap64 (a0_0 + 1)), (a0_2), H', ⟨by first | omega | exact Nat.le_refl _⟩, ⟨bq1 BK498 NB498_500⟩, ⟨bq1 BK499 NB499_500⟩, ⟨bq0 BK500⟩, ⟨bbw3 HB GE498 GE499 GE500⟩⟩
 case rest =>
  clear HC2
  try clear c1
  try clear p2
  try clear c5
  try clear p6
  try clear c8
  try clear c9
  try clear c11
  try clear c11b0
  try clear c11b1
  try clear c11b2
  try clear c12
  try clear c13
  try clear c15
  try clear hcz10_0
  try clear hcz10_1
  try clear hcz14_0
  try clear hcz14_1
  try clear hcz14_2
  try clear hcz14_3
  try clear hcz16_0
  try clear hcz16_1
  try clear hcz6_0
  try clear hcz6_1
  try clear hcz6_2
  try clear hcz6_3
  try clear hfz10_0
  try clear hfz10_1
  try clear hfz14_0
  try clear hfz14_1
  try clear hfz14_2
  try clear hfz14_3
  try clear hfz16_0
  try clear hfz16_1
  try clear hfz6_0
  try clear hfz6_1
  try clear hfz6_2
  try clear hfz6_3
  obtain ⟨kq, x501000_1, x501001_1, HA, HJ1, BK498, BK499, BK500, HB⟩ := hcut
  cases kq with
  | zero => exact absurd HA.out (by simp [spec_l02Axis.j0])
  | succ kj1 =>
   have H := HA.out
   clear HA
   simp only [spec_l02Axis.j0] at H
   obtain ⟨t501, A17, H⟩ := ob H
   try dsimp only at H
   by_cases c18 : t501 = 0
   ·rw [if_pos c18] at H
    exact absurd H (by simp)
   rw [if_neg c18] at H
   have c18b0 : (t501 == 0) = false := beq_eq_false_iff_ne.mpr c18
   have c18b1 : (t501 != 0) = true := bne_iff_ne.mpr c18
   obtain ⟨t502, A19, H⟩ := ob H
   try dsimp only at H
   by_cases c20 : t502 = true
   subst c20
   replace H := ifT H
   obtain ⟨⟨t503, t504⟩, A21, H⟩ := ob H
   try dsimp only at H
   rotate_left
   replace c20 := Bool.eq_false_iff.mpr c20
   subst c20
   replace H := ifF H
   rotate_left
   all_goals
    simp only [Option.some.injEq, Prod.mk.injEq] at H
    obtain ⟨rfl, rfl⟩ := H
    have hnb22 := NB500_498.out
    have hnc22 := NB498_500.out
    have hnb23 := NB500_499.out
    have hnc23 := NB499_500.out
    obtain ⟨hcz24_0, hcz24_1, hfz24_0, hfz24_1⟩ := bz2 BK500
    try go_wp2_with (first | ((with_reducible refine gate_callee (f := 70) rfl ?_); refine gl 24 Tryz.func70 #[.int .i64 x501000_1, .int .i64 x501001_1] ?_; (with_reducible refine (spec_l01Divisor.calls _ _ _ _ _ A17.out).mono ?_); rintro e w25 ⟨rfl, hb⟩; refine ⟨_, rfl, ?_⟩; replace BK498 := bB BK498 hb; replace BK499 := bB BK499 hb; replace BK500 := bB BK500 hb; replace HB := bS3 HB GE498 GE499 GE500 hb; (try clear hb)))
    replace BK498 := asd (blk_drew BK498.out)
    replace BK499 := asd (blk_drew BK499.out)
    replace BK500 := asd (blk_drew BK500.out)
    replace HB := asd (below_drew1 HB.out)
    refine start_ (n := 10) (S := fun w' => w'.cell? ⟨gb500, 0, none⟩ = some (.int .i64 x501000_1) ∧ w'.cell? ⟨gb500, 1, none⟩ = some (.int .i64 x501001_1)) (ds := [9]) (bT 10 0) (by kernel_rfl) rfl rfl ⟨bcl BK500 0, bcl BK500 1⟩ (fun hHeld => ?_); refine with_tabW spec_l02Axis.tab5 spec_l02Axis.bits5 (fun HT_ HW_ => ?_)
    generalize w25.drew = w26 at BK498 BK499 BK500 HB hHeld ⊢
    refine pu 0 (some 25) (bT 10 1) HT_ ?_
    refine pu 2 (some 27) (bs 10 5) HT_ ?_
    refine pu 4 (some 29) (bs 10 21) HT_ ?_
    refine pu 6 (some 31) (bs 10 85) HT_ ?_
    refine ta 1 (some 26) (bs 10 87) HT_ HW_ hHeld ?_
    refine pu 3 (some 28) (bs 10 95) HT_ ?_
    refine ta 5 (some 30) (bT 10 7) HT_ HW_ hHeld ?_
    refine pu 7 (some 32) (bT 10 8) HT_ ?_
    refine pu 8 (some 33) (bT 10 9) HT_ ?_
    refine last_ (i := 9) (N := none) (bT 10 10) rfl rfl (one_of HT_.out (by kernel_rfl)) (by decide) (fun K hK => ?_)
    have hs27 : w26.cell? ⟨gb500, 0, none⟩ = some (.int .i64 x501000_1) := bcl BK500 0
    have hfs27 := blk_frozen BK500.out 0
    have hns27_0 := NB498_500.out
    have hns27_1 := NB499_500.out
    have hms27_0 := NB500_498.out
    have hms27_1 := NB500_499.out
    have hs28 : w26.cell? ⟨gb500, 1, none⟩ = some (.int .i64 x501001_1) := bcl BK500 1
    have hfs28 := blk_frozen BK500.out 1
    have hns28_0 := NB498_500.out
    have hns28_1 := NB499_500.out
    have hms28_0 := NB500_498.out
    have hms28_1 := NB500_499.out
    refine skip_ (w1 := ?_) (by rfl) rfl ?_ ?_
    rotate_left
    ·go_simp
     rfl
    refine hK.out _ _ ?_
    clear hK K
    refine done_ (done_of HT_.out (by kernel_rfl)) ?_
    obtain ⟨hcz29_0, hcz29_1, hfz29_0, hfz29_1⟩ := bz2 BK500
   ·try go_wp2_with (first | ((with_reducible refine gate_callee (f := 92) rfl ?_); refine gl 36 Tryz.func92 #[.agg #[.int .i64 (wrap64 (Int.tdiv x501000_1 t501)), .int .i64 (wrap64 (Int.tdiv x501001_1 t501))], .agg #[.int .i64 0, .int .i64 0]] ?_; (with_reducible refine (spec_l01Less.calls _ _ _ _ _ _ A19.out).mono ?_); rintro e w30 ⟨rfl, hb⟩; refine ⟨_, rfl, ?_⟩; replace BK498 := asd (blk_below (g := gb498) (o := .cells #[.int .i64 a0_0, .int .i64 a0_1, .int .i64 a0_2, .int .i64 a0_3] 27 (0, 0)) (bq1 BK498 NB498_500) hb); replace BK499 := asd (blk_below (g := gb499) (o := .cells #[.int .i64 0, .int .i64 0] 31 (0, 0)) (bq1 BK499 NB499_500) hb); replace BK500 := asd (blk_below (g := gb500) (o := .cells #[.int .i64 (wrap64 (Int.tdiv x501000_1 t501)), .int .i64 (wrap64 (Int.tdiv x501001_1 t501))] 31 (0, 0)) (bq0 BK500) hb); replace HB := bS3 HB GE498 GE499 GE500 hb; (try clear hb); obtain ⟨hcz31_0, hcz31_1, hfz31_0, hfz31_1⟩ := bz2 BK500) | ((with_reducible refine gate_callee (f := 54) rfl ?_); refine gl 38 Tryz.func54 #[.agg #[.int .i64 (wrap64 (Int.tdiv x501000_1 t501)), .int .i64 (wrap64 (Int.tdiv x501001_1 t501))], .int .i64 (-1)] ?_; (with_reducible refine (spec_l01Scale.calls _ _ _ _ _ _ A21.out).mono ?_); rintro e w32 ⟨rfl, hb⟩; refine ⟨_, rfl, ?_⟩; replace BK498 := bB BK498 hb; replace BK499 := bB BK499 hb; replace BK500 := bB BK500 hb; replace HB := bS3 HB GE498 GE499 GE500 hb; (try clear hb); obtain ⟨hcz33_0, hcz33_1, hfz33_0, hfz33_1⟩ := bz2 BK500; have hnb34 := NB499_498.out; have hnc34 := NB498_499.out; obtain ⟨hcz35_0, hcz35_1, hfz35_0, hfz35_1⟩ := bz2 BK499))
    refine bodyPost_ret (results_cell_row rfl _ _ gb499 31 #[.int .i64 t503, .int .i64 t504] (0, 0) _ rfl (bq1 BK499 NB499_500) Tryz.underlying31 rfl (by kernel_rfl)) rfl ?_
    exact er (bbw3 HB GE498 GE499 GE500)
   ·try go_wp2_with (first | ((with_reducible refine gate_callee (f := 92) rfl ?_); refine gl 36 Tryz.func92 #[.agg #[.int .i64 (wrap64 (Int.tdiv x501000_1 t501)), .int .i64 (wrap64 (Int.tdiv x501001_1 t501))], .agg #[.int .i64 0, .int .i64 0]] ?_; (with_reducible refine (spec_l01Less.calls _ _ _ _ _ _ A19.out).mono ?_); rintro e w44 ⟨rfl, hb⟩; refine ⟨_, rfl, ?_⟩; replace BK498 := asd (blk_below (g := gb498) (o := .cells #[.int .i64 a0_0, .int .i64 a0_1, .int .i64 a0_2, .int .i64 a0_3] 27 (0, 0)) (bq1 BK498 NB498_500) hb); replace BK499 := asd (blk_below (g := gb499) (o := .cells #[.int .i64 0, .int .i64 0] 31 (0, 0)) (bq1 BK499 NB499_500) hb); replace BK500 := asd (blk_below (g := gb500) (o := .cells #[.int .i64 (wrap64 (Int.tdiv x501000_1 t501)), .int .i64 (wrap64 (Int.tdiv x501001_1 t501))] 31 (0, 0)) (bq0 BK500) hb); replace HB := bS3 HB GE498 GE499 GE500 hb; (try clear hb); obtain ⟨hcz45_0, hcz45_1, hfz45_0, hfz45_1⟩ := bz2 BK500; have hnb46 := NB499_498.out; have hnc46 := NB498_499.out; obtain ⟨hcz47_0, hcz47_1, hfz47_0, hfz47_1⟩ := bz2 BK499))
    refine bodyPost_ret (results_cell_row rfl _ _ gb499 31 #[.int .i64 (wrap64 (Int.tdiv x501000_1 t501)), .int .i64 (wrap64 (Int.tdiv x501001_1 t501))] (0, 0) _ rfl (bq0 BK499) Tryz.underlying31 rfl (by kernel_rfl)) rfl ?_
    exact er (bbw3 HB GE498 GE499 GE500)
/-! ### spec_l03Reduce: function 93 -/
def spec_l03Reduce.f (a0_0 : Int) (a0_1 : Int) (a0_2 : Int) (a1_0 : Int) (a1_1 : Int) : Option (Int × Int) := (spec_l01Mod.f a1_1 a0_2).bind fun t508 => (if a0_2 = 0 then (none) else ((spec_l01Mod.f (wrap64 (a1_0 - (wrap64 ((wrap64 (Int.tdiv (wrap64 (a1_1 - t508)) a0_2)) * a0_1)))) a0_0).bind fun t509 => (some (t509, t508))))
set_option maxHeartbeats 8000000 in
set_option maxRecDepth 100000 in
theorem spec_l03Reduce.calls (a0_0 : Int) (a0_1 : Int) (a0_2 : Int) (a1_0 : Int) (a1_1 : Int) (r1 : Int) (r2 : Int) (w : World) (h : spec_l03Reduce.f a0_0 a0_1 a0_2 a1_0 a1_1 = some (r1, r2)) :
  Calls Tryz.prog 93 #[.agg #[.int .i64 a0_0, .int .i64 a0_1, .int .i64 a0_2], .agg #[.int .i64 a1_0, .int .i64 a1_1]] w fun e w' => e = .returned (.agg #[.int .i64 r1, .int .i64 r2]) ∧ Below w.heap.size w w' := by
 have hu25 := Tryz.underlying25
 have hu31 := Tryz.underlying31
 have HB := asd (Below.refl w.heap.size w)
 have H : ((spec_l01Mod.f a1_1 a0_2).bind fun t508 => (if a0_2 = 0 then (none) else ((spec_l01Mod.f (wrap64 (a1_0 - (wrap64 ((wrap64 (Int.tdiv (wrap64 (a1_1 - t508)) a0_2)) * a0_1)))) a0_0).bind fun t509 => (some (t509, t508))))) = some (r1, r2) := h
 clear h
 obtain ⟨t508, A3, H⟩ := ob H
 try dsimp only at H
 by_cases c4 : a0_2 = 0
 ·rw [if_pos c4] at H
  exact absurd H (by simp)
 ·rw [if_neg c4] at H
  have c4b0 : (a0_2 == 0) = false := beq_eq_false_iff_ne.mpr c4
  have c4b1 : (a0_2 != 0) = true := bne_iff_ne.mpr c4
  obtain ⟨t509, A5, H⟩ := ob H
  try dsimp only at H
  simp only [Option.some.injEq, Prod.mk.injEq] at H
  obtain ⟨rfl, rfl⟩ := H
  go_enter Tryz.func93, Tryz.ntmps93
  go_wp2_with (first | ((with_reducible refine gd 2 rfl ?_); refine bx #[.int .i64 a0_0, .int .i64 a0_1, .int .i64 a0_2] 25 ?_; intro gb505 hg w6 BK505 hb; have GE505 := ngw0 hg HB; replace HB := bS0 HB hb; clear hb hg) | ((with_reducible refine gd 3 rfl ?_); refine bx #[.int .i64 a1_0, .int .i64 a1_1] 31 ?_; intro gb506 hg w7 BK506 hb; have GE506 := ngw1 hg HB GE505; replace HB := bS1 HB GE505 hb; have NB505_506 := nlt hg BK505; have NB506_505 := nsy (nlt hg BK505); replace BK505 := bB BK505 hb; clear hb hg) | ((with_reducible refine gd 4 rfl ?_); refine bx #[.int .i64 0, .int .i64 0] 31 ?_; intro gb507 hg w8 BK507 hb; have GE507 := ngw2 hg HB GE505 GE506; replace HB := bS2 HB GE505 GE506 hb; have NB505_507 := nlt hg BK505; have NB507_505 := nsy (nlt hg BK505); replace BK505 := bB BK505 hb; have NB506_507 := nlt hg BK506; have NB507_506 := nsy (nlt hg BK506); replace BK506 := bB BK506 hb; clear hb hg; have hnb9 := NB506_505.out; have hnc9 := NB505_506.out; have hnb10 := NB506_507.out; have hnc10 := NB507_506.out; obtain ⟨hcz11_0, hcz11_1, hfz11_0, hfz11_1⟩ := bz2 BK506; have hnb12 := NB505_507.out; have hnc12 := NB507_505.out; obtain ⟨hcz13_0, hcz13_1, hcz13_2, hfz13_0, hfz13_1, hfz13_2⟩ := bz3 BK505) | ((with_reducible refine gate_callee (f := 71) rfl ?_); refine gl 11 Tryz.func71 #[.int .i64 a1_1, .int .i64 a0_2] ?_; (with_reducible refine (spec_l01Mod.calls _ _ _ _ A3.out).mono ?_); rintro e w' ⟨rfl, ⟨nd, rfl⟩⟩; refine ⟨_, rfl, ?_⟩; (try (rw [drewN_self w8]; generalize hq_ : World.drewN w8 _ = w8; have n0_ : Aside0 (w8.heap[gb505]? = some (.cells #[.int .i64 a0_0, .int .i64 a0_1, .int .i64 a0_2] 25 (0, 0))) := ⟨by rw [← hq_]; exact (bkp BK505)⟩; have n1_ : Aside0 (w8.heap[gb506]? = some (.cells #[.int .i64 a1_0, .int .i64 a1_1] 31 (0, 0))) := ⟨by rw [← hq_]; exact (bkp BK506)⟩; have n2_ : Aside0 (w8.heap[gb507]? = some (.cells #[.int .i64 0, .int .i64 0] 31 (0, 0))) := ⟨by rw [← hq_]; exact (bkp BK507)⟩; have n3_ : Aside0 (Below w.heap.size w w8) := ⟨by rw [← hq_]; exact (bbw3 HB GE505 GE506 GE507)⟩; clear BK505 BK506 BK507 HB hq_; have BK505 := n0_; have BK506 := n1_; have BK507 := n2_; have HB := n3_; clear n0_ n1_ n2_ n3_)); have hcz14_0 : w8.cell? ⟨gb506, 0, none⟩ = some (.int .i64 a1_0) := bcl BK506 0; have hcz14_1 : w8.cell? ⟨gb506, 1, none⟩ = some (.int .i64 a1_1) := bcl BK506 1; have hfz14_0 := blk_frozen BK506.out 0; have hfz14_1 := blk_frozen BK506.out 1; have hcz15_0 : w8.cell? ⟨gb505, 0, none⟩ = some (.int .i64 a0_0) := bcl BK505 0; have hcz15_1 : w8.cell? ⟨gb505, 1, none⟩ = some (.int .i64 a0_1) := bcl BK505 1; have hcz15_2 : w8.cell? ⟨gb505, 2, none⟩ = some (.int .i64 a0_2) := bcl BK505 2; have hfz15_0 := blk_frozen BK505.out 0; have hfz15_1 := blk_frozen BK505.out 1; have hfz15_2 := blk_frozen BK505.out 2) | ((with_reducible refine gate_callee (f := 71) rfl ?_); refine gl 28 Tryz.func71 #[.int .i64 (wrap64 (a1_0 - (wrap64 ((wrap64 (Int.tdiv (wrap64 (a1_1 - t508)) a0_2)) * a0_1)))), .int .i64 a0_0] ?_; (with_reducible refine (spec_l01Mod.calls _ _ _ _ A5.out).mono ?_); rintro e w' ⟨rfl, ⟨nd, rfl⟩⟩; refine ⟨_, rfl, ?_⟩; (try (rw [drewN_self w8]; generalize hq_ : World.drewN w8 _ = w8; have n0_ : Aside0 (w8.heap[gb505]? = some (.cells #[.int .i64 a0_0, .int .i64 a0_1, .int .i64 a0_2] 25 (0, 0))) := ⟨by rw [← hq_]; exact (bkp BK505)⟩; have n1_ : Aside0 (w8.heap[gb506]? = some (.cells #[.int .i64 a1_0, .int .i64 a1_1] 31 (0, 0))) := ⟨by rw [← hq_]; exact (bkp BK506)⟩; have n2_ : Aside0 (w8.heap[gb507]? = some (.cells #[.int .i64 0, .int .i64 0] 31 (0, 0))) := ⟨by rw [← hq_]; exact (bkp BK507)⟩; have n3_ : Aside0 (Below w.heap.size w w8) := ⟨by rw [← hq_]; exact (bbw3 HB GE505 GE506 GE507)⟩; clear BK505 BK506 BK507 HB hq_; have BK505 := n0_; have BK506 := n1_; have BK507 := n2_; have HB := n3_; clear n0_ n1_ n2_ n3_)); have hcz16_0 : w8.cell? ⟨gb507, 0, none⟩ = some (.int .i64 0) := bcl BK507 0; have hcz16_1 : w8.cell? ⟨gb507, 1, none⟩ = some (.int .i64 0) := bcl BK507 1; have hfz16_0 := blk_frozen BK507.out 0; have hfz16_1 := blk_frozen BK507.out 1))
  refine bodyPost_ret (results_cell_row rfl _ _ gb507 31 #[.int .i64 t509, .int .i64 t508] (0, 0) _ rfl (bq0 BK507) Tryz.underlying31 rfl (by kernel_rfl)) rfl ?_
  exact er (bbw3 HB GE505 GE506 GE507)
/-! ### spec_l03Has: function 55 -/
def spec_l03Has.f (a0_0 : Int) (a0_1 : Int) (a0_2 : Int) (a1_0 : Int) (a1_1 : Int) : Option (Bool) := (spec_l03Reduce.f a0_0 a0_1 a0_2 a1_0 a1_1).bind fun bt512 => (some (bt512.1 == 0 && (bt512.2 == 0)))
set_option maxHeartbeats 8000000 in
set_option maxRecDepth 100000 in
theorem spec_l03Has.calls (a0_0 : Int) (a0_1 : Int) (a0_2 : Int) (a1_0 : Int) (a1_1 : Int) (r : Bool) (w : World) (h : spec_l03Has.f a0_0 a0_1 a0_2 a1_0 a1_1 = some r) :
  Calls Tryz.prog 55 #[.agg #[.int .i64 a0_0, .int .i64 a0_1, .int .i64 a0_2], .agg #[.int .i64 a1_0, .int .i64 a1_1]] w fun e w' => e = .returned (.bool r) ∧ Below w.heap.size w w' := by
 have hu25 := Tryz.underlying25
 have hu31 := Tryz.underlying31
 have HB := asd (Below.refl w.heap.size w)
 have H : ((spec_l03Reduce.f a0_0 a0_1 a0_2 a1_0 a1_1).bind fun bt512 => (some (bt512.1 == 0 && (bt512.2 == 0)))) = some r := h
 clear h
 obtain ⟨⟨t512, t513⟩, A3, H⟩ := ob H
 try dsimp only at H
 obtain rfl := Option.some.inj H
 go_enter Tryz.func55, Tryz.ntmps55
 go_wp2_with (first | ((with_reducible refine gd 2 rfl ?_); refine bx #[.int .i64 a0_0, .int .i64 a0_1, .int .i64 a0_2] 25 ?_; intro gb510 hg w4 BK510 hb; have GE510 := ngw0 hg HB; replace HB := bS0 HB hb; clear hb hg) | ((with_reducible refine gd 3 rfl ?_); refine bx #[.int .i64 a1_0, .int .i64 a1_1] 31 ?_; intro gb511 hg w5 BK511 hb; have GE511 := ngw1 hg HB GE510; replace HB := bS1 HB GE510 hb; have NB510_511 := nlt hg BK510; have NB511_510 := nsy (nlt hg BK510); replace BK510 := bB BK510 hb; clear hb hg; have hnb6 := NB510_511.out; have hnc6 := NB511_510.out; obtain ⟨hcz7_0, hcz7_1, hcz7_2, hfz7_0, hfz7_1, hfz7_2⟩ := bz3 BK510; obtain ⟨hcz8_0, hcz8_1, hfz8_0, hfz8_1⟩ := bz2 BK511) | ((with_reducible refine gate_callee (f := 93) rfl ?_); refine gl 7 Tryz.func93 #[.agg #[.int .i64 a0_0, .int .i64 a0_1, .int .i64 a0_2], .agg #[.int .i64 a1_0, .int .i64 a1_1]] ?_; (with_reducible refine (spec_l03Reduce.calls _ _ _ _ _ _ _ _ A3.out).mono ?_); rintro e w9 ⟨rfl, hb⟩; refine ⟨_, rfl, ?_⟩; replace BK510 := bB BK510 hb; replace BK511 := bB BK511 hb; replace HB := bS2 HB GE510 GE511 hb; (try clear hb)))
 go_ret
 exact er (bbw2 HB GE510 GE511)

end Go.Proofs.YtedmadofpdkekaaGreat.PA
