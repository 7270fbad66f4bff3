import Derived.Test.YtedmadofpdkekaaPAx0
import Derived.Test.YtedmadofpdkekaaPAx1
import Derived.Test.YtedmadofpdkekaaPAx5
import Derived.Test.YtedmadofpdkekaaPAx6
import Derived.Test.YtedmadofpdkekaaPAx15
namespace Go.Proofs.Ytedmadofpdkekaa.PA
open Go.RowKit Go.Proofs.YtedmadofpdkekaaW.PrintWords Go.Proofs.YtedmadofpdkekaaW.PrintLast Go.Proofs.YtedmadofpdkekaaW.PrintMore
attribute [local go_sem] max2_int min2_int max_two min_two max_three min_three max_four min_four   -- for this text's walks alone
set_option linter.unusedVariables false
set_option maxHeartbeats 8000000
set_option maxRecDepth 100000
set_option linter.unusedSimpArgs false
attribute [local go_sem high] eqA25
def spec_IsSuitable.f (k : Nat) (a0 : Int) (Ac : Int) (Ad : Int) (Ae : Int) (Ai : Int) (Aj : Int) (Ak : Int) (Al : Int) (An : Int) (Ao : Int) : Option (Bool) := (spec_l04Code.f a0 Ac Ad Ae).bind fun Am => (if Am = 0 then ((spec_IsPointMat.f a0 Ai Aj Ak Al).bind fun As => (if As = true then ((spec_l04Image.f k Ai Aj Ak Al Ac Ad Ae).bind fun Ag => (if (Ag.1 == Ac && (Ag.2.1 == Ad && (Ag.2.2 == Ae))) = true then ((spec_IsVec.f An Ao).bind fun At => (some At)) else (some false))) else (some false))) else (some false))
def spec_IsSuitable.T1 : Bool × List (List Nat × List Nat) := (true, [([], []), ([], []), ([0, 1], [0, 1]), ([2], [2]), ([3, 2], [3]), ([4], [4]), ([4], [4]), ([6, 4], [4, 6]), ([5, 7, 4, 4], [4, 5, 7]), ([4, 8], [4, 8]), ([9, 8], [9]), ([10], [10]), ([11, 10], [10, 11]), ([10], [10]), ([12, 13, 10, 10], [10, 12, 13]), ([10], [10]), ([14, 15, 10], [10, 14, 15]), ([10, 16], [10, 16]), ([17, 14], [17]), ([18], [18]), ([19, 18], [18, 19]), ([20, 18, 18], [18, 20]), ([18, 21], [18, 21]), ([22, 21, 0, 1, 2, 3, 4, 5, 6, 7, 8, 9, 10, 11, 12, 13, 14, 15, 16, 17, 18, 19, 20, 21, 22], [22])])
def spec_IsSuitable.B1 : List Nat := [0, 0, 3, 7, 15, 31, 31, 95, 255, 511, 1023, 2047, 4095, 2047, 16383, 2047, 65535, 131071, 262143, 524287, 1048575, 2097151, 4194303, 8388607]
theorem spec_IsSuitable.tab1 : rtab .any (opsOf Try.f35 1) = spec_IsSuitable.T1 := by kernel_rfl
theorem spec_IsSuitable.bits1 : waitsOk spec_IsSuitable.T1.2 spec_IsSuitable.B1 = true := by kernel_rfl
theorem spec_IsSuitable.calls (k : Nat) (a0 : Int) (Ac : Int) (Ad : Int) (Ae : Int) (Ai : Int) (Aj : Int) (Ak : Int) (Al : Int) (An : Int) (Ao : Int) (r : Bool) (w : World) (h : spec_IsSuitable.f k a0 Ac Ad Ae Ai Aj Ak Al An Ao = some r) :
  Calls Try.prog 35 #[.int .i64 a0, .agg #[.int .i64 Ac, .int .i64 Ad, .int .i64 Ae], .agg #[.int .i64 Ai, .int .i64 Aj, .int .i64 Ak, .int .i64 Al, .int .i64 An, .int .i64 Ao]] w fun e w' => e = .returned (.bool r) ∧ Below w.heap.size w w' := by
 have hu25 := Try.underlying25
 have hu55 := Try.underlying55
 have hu51 := Try.underlying51
 have hu53 := Try.underlying53
 have HB := asd (Below.refl w.heap.size w)
 have H : ((spec_l04Code.f a0 Ac Ad Ae).bind fun Am => (if Am = 0 then ((spec_IsPointMat.f a0 Ai Aj Ak Al).bind fun As => (if As = true then ((spec_l04Image.f k Ai Aj Ak Al Ac Ad Ae).bind fun Ag => (if (Ag.1 == Ac && (Ag.2.1 == Ad && (Ag.2.2 == Ae))) = true then ((spec_IsVec.f An Ao).bind fun At => (some At)) else (some false))) else (some false))) else (some false))) = some r := h
 clear h
 obtain ⟨Am, A4, H⟩ := ob H
 try dsimp only at H
 by_cases c5 : Am = 0
 rw [if_pos c5] at H
 have Aw : (Am == 0) = true := beq_iff_eq.mpr c5
 have Ax : (Am != 0) = false := bne_eq_false_iff_eq.mpr c5
 clear c5
 obtain ⟨As, A6, H⟩ := ob H
 try dsimp only at H
 by_cases c7 : As = true
 subst c7
 replace H := ifT H
 obtain ⟨⟨Ap, Aq, Ar⟩, A8, H⟩ := ob H
 try dsimp only at H
 by_cases c9 : (Ap == Ac && (Aq == Ad && (Ar == Ae))) = true
 rw [if_pos c9] at H
 have Ay := c9
 (try (have Az : decide (Ap = Ac && (Aq == Ad && (Ar == Ae))) = true := by simpa using c9))
 (try (have AA : (Ap == Ac && (Aq == Ad && (Ar == Ae))) = true := by simpa using c9))
 clear c9
 obtain ⟨At, AD, H⟩ := ob H
 try dsimp only at H
 obtain rfl := Option.some.inj H
 rotate_left
 rw [if_neg c9] at H
 have Ay : (Ap == Ac && (Aq == Ad && (Ar == Ae))) = false := by simpa using c9
 (try (have Az : decide (Ap = Ac && (Aq == Ad && (Ar == Ae))) = false := by simpa using c9))
 (try (have AA : (Ap == Ac && (Aq == Ad && (Ar == Ae))) = false := by simpa using c9))
 (try (have AE : ¬ (Ap = Ac && (Aq == Ad && (Ar == Ae))) := by simpa using c9))
 clear c9
 obtain rfl := Option.some.inj H
 rotate_left
 replace c7 := Bool.eq_false_iff.mpr c7
 subst c7
 replace H := ifF H
 obtain rfl := Option.some.inj H
 rotate_left
 rw [if_neg c5] at H
 have Aw : (Am == 0) = false := beq_eq_false_iff_ne.mpr c5
 have Ax : (Am != 0) = true := bne_iff_ne.mpr c5
 obtain rfl := Option.some.inj H
 rotate_left
 all_goals
  go_enter Try.func35, Try.ntmps35
  try go_wp2_with (first | ((with_reducible refine gd 4 rfl ?_); refine bx #[.int .i64 Ac, .int .i64 Ad, .int .i64 Ae] 25 ?_; intro AB hg AG Aa hb; have Af := ngw0 hg HB; replace HB := bS0 HB hb; clear hb hg) | ((with_reducible refine gd 5 rfl ?_); refine bx #[.int .i64 Ai, .int .i64 Aj, .int .i64 Ak, .int .i64 Al, .int .i64 An, .int .i64 Ao] 55 ?_; intro AC hg AF Ab hb; have Ah := ngw1 hg HB Af; replace HB := bS1 HB Af hb; have Au := nlt hg Aa; have Av := nsy (nlt hg Aa); replace Aa := bB Aa hb; clear hb hg))
  replace Aa := asd (blk_drew Aa.out);replace Ab := asd (blk_drew Ab.out);replace HB := asd (qm HB.out)
 refine sh 24 (cb3 Aa (eb6 Ab)) (fun hHeld => ?_); refine with_tabW spec_IsSuitable.tab1 spec_IsSuitable.bits1 (fun HT_ HW_ => ?_)
 rotate_left
 refine sh 24 (cb3 Aa (eb6 Ab)) (fun hHeld => ?_); refine with_tabW spec_IsSuitable.tab1 spec_IsSuitable.bits1 (fun HT_ HW_ => ?_)
 rotate_left
 refine sh 24 (cb3 Aa (eb6 Ab)) (fun hHeld => ?_); refine with_tabW spec_IsSuitable.tab1 spec_IsSuitable.bits1 (fun HT_ HW_ => ?_)
 rotate_left
 refine sh 24 (eb3 Aa) (fun hHeld => ?_); refine with_tabW spec_IsSuitable.tab1 spec_IsSuitable.bits1 (fun HT_ HW_ => ?_)
 rotate_left
 all_goals
  generalize AF.drew = AH at Aa Ab HB hHeld ⊢;refine pu 0 (some 7) (bT 24 1) HT_ ?_;refine ta 1 (some 8) (bT 24 2) HT_ HW_ hHeld ?_;refine ro 2 (some 9) (bT 24 3) HT_ (fun K hK => ?_);refine gs Try.func28 #[.int .i64 a0, .agg #[.int .i64 Ac, .int .i64 Ad, .int .i64 Ae]] ?_;with_reducible refine (spec_l04Code.calls _ _ _ _ _ _ A4.out).mono ?_
  rintro e AI ⟨rfl, hb⟩;refine ⟨_, rfl, ?_⟩;replace Aa := bB Aa hb;replace Ab := bB Ab hb;replace HB := bS2 HB Af Ah hb;(try clear hb);(try clear hb2);(try clear hk);(try clear hi)
 rotate_left 3
 ·refine hK.out _ _ (eb3 Aa).out (fun hHeld => ?_);clear hK K;refine norm_ (a' := ?_) ?_ ?_;rotate_left
  ·show Act.put _ (some 9) _ = _
   simp only [Act.put, sA, sB, sC, i64_w, i32_w];rfl
  refine pu 3 (some 10) (bT 24 4) HT_ ?_;refine pu 4 (some 11) (bT 24 5) HT_ ?_;refine pf 5 (some 12) (bT 24 6) HT_ ?_;refine pf 6 (some 13) (bT 24 7) HT_ ?_;refine pf 7 (some 14) (bT 24 8) HT_ ?_;refine pf 8 (some 15) (bT 24 9) HT_ ?_;refine pu 9 (some 16) (bT 24 10) HT_ ?_;refine pu 10 (some 17) (bT 24 11) HT_ ?_;refine pf 11 (some 18) (bT 24 12) HT_ ?_;refine pf 12 (some 19) (bT 24 13) HT_ ?_;refine pf 13 (some 20) (bT 24 14) HT_ ?_;refine pf 14 (some 21) (bT 24 15) HT_ ?_;refine pf 15 (some 22) (bT 24 16) HT_ ?_;refine pf 16 (some 23) (bT 24 17) HT_ ?_;refine pu 17 (some 24) (bT 24 18) HT_ ?_;refine pu 18 (some 25) (bT 24 19) HT_ ?_;refine pf 19 (some 26) (bT 24 20) HT_ ?_;refine pf 20 (some 27) (bT 24 21) HT_ ?_;refine pf 21 (some 28) (bT 24 22) HT_ ?_;refine pu 22 (some 29) (bT 24 23) HT_ ?_;refine pu 23 (some 6) (bT 24 24) HT_ ?_;refine done_ (done_of HT_.out (by kernel_rfl)) ?_;try go_wp2
  go_ret
  exact er (bbw2 HB Af Ah)
 all_goals
  refine hK.out _ _ (cb3 Aa (eb6 Ab)).out (fun hHeld => ?_);clear hK K;refine norm_ (a' := ?_) ?_ ?_;rotate_left
  ·show Act.put _ (some 9) _ = _
   simp only [Act.put, sA, sB, sC, i64_w, i32_w];rfl
  refine pu 3 (some 10) (bT 24 4) HT_ ?_;refine pu 4 (some 11) (bT 24 5) HT_ ?_;refine pu 5 (some 12) (bT 24 6) HT_ ?_;refine pu 6 (some 13) (bT 24 7) HT_ ?_;refine ta 7 (some 14) (bT 24 8) HT_ HW_ hHeld ?_;refine ro 8 (some 15) (bT 24 9) HT_ (fun K hK => ?_);refine gs Try.func61 #[.int .i64 a0, .agg #[.int .i64 Ai, .int .i64 Aj, .int .i64 Ak, .int .i64 Al]] ?_;with_reducible refine (spec_IsPointMat.calls _ _ _ _ _ _ _ A6.out).mono ?_
  rintro e AJ ⟨rfl, hb⟩;refine ⟨_, rfl, ?_⟩;replace Aa := bB Aa hb;replace Ab := bB Ab hb;replace HB := bS2 HB Af Ah hb;(try clear hb);(try clear hb2);(try clear hk);(try clear hi);refine hK.out _ _ (cb3 Aa (eb6 Ab)).out (fun hHeld => ?_);clear hK K;refine norm_ (a' := ?_) ?_ ?_;rotate_left
  ·show Act.put _ (some 15) _ = _
   simp only [Act.put, sA, sB, sC, i64_w, i32_w];rfl
  refine pu 9 (some 16) (bT 24 10) HT_ ?_;refine pu 10 (some 17) (bT 24 11) HT_ ?_
 rotate_left 2
 ·refine pf 11 (some 18) (bT 24 12) HT_ ?_;refine pf 12 (some 19) (bT 24 13) HT_ ?_;refine pf 13 (some 20) (bT 24 14) HT_ ?_;refine pf 14 (some 21) (bT 24 15) HT_ ?_;refine pf 15 (some 22) (bT 24 16) HT_ ?_;refine pf 16 (some 23) (bT 24 17) HT_ ?_;refine pu 17 (some 24) (bT 24 18) HT_ ?_;refine pu 18 (some 25) (bT 24 19) HT_ ?_;refine pf 19 (some 26) (bT 24 20) HT_ ?_;refine pf 20 (some 27) (bT 24 21) HT_ ?_;refine pf 21 (some 28) (bT 24 22) HT_ ?_;refine pu 22 (some 29) (bT 24 23) HT_ ?_;refine pu 23 (some 6) (bT 24 24) HT_ ?_;refine done_ (done_of HT_.out (by kernel_rfl)) ?_;try go_wp2
  go_ret
  exact er (bbw2 HB Af Ah)
 all_goals
  refine pu 11 (some 18) (bT 24 12) HT_ ?_;refine ta 12 (some 19) (bT 24 13) HT_ HW_ hHeld ?_;refine ta 13 (some 20) (bT 24 14) HT_ HW_ hHeld ?_;refine ta 15 (some 22) (bs 24 49151) HT_ HW_ hHeld ?_;refine ro 14 (some 21) (bT 24 16) HT_ (fun K hK => ?_);refine gs Try.func62 #[.agg #[.int .i64 Ai, .int .i64 Aj, .int .i64 Ak, .int .i64 Al], .agg #[.int .i64 Ac, .int .i64 Ad, .int .i64 Ae]] ?_;with_reducible refine (spec_l04Image.calls _ _ _ _ _ _ _ _ _ _ _ _ A8.out).mono ?_
  rintro e AK ⟨rfl, hb⟩;refine ⟨_, rfl, ?_⟩;replace Aa := bB Aa hb;replace Ab := bB Ab hb;replace HB := bS2 HB Af Ah hb;(try clear hb);(try clear hb2);(try clear hk);(try clear hi);refine hK.out _ _ (cb3 Aa (eb6 Ab)).out (fun hHeld => ?_);clear hK K;refine norm_ (a' := ?_) ?_ ?_;rotate_left
  ·show Act.put _ (some 21) _ = _
   simp only [Act.put, sA, sB, sC, i64_w, i32_w];rfl
  refine pu 16 (some 23) (bT 24 17) HT_ ?_;refine pu 17 (some 24) (bT 24 18) HT_ ?_;refine pu 18 (some 25) (bT 24 19) HT_ ?_
 focus
  refine pu 19 (some 26) (bT 24 20) HT_ ?_;refine ta 20 (some 27) (bT 24 21) HT_ HW_ hHeld ?_;refine ro 21 (some 28) (bT 24 22) HT_ (fun K hK => ?_);refine gs Try.func63 #[.agg #[.int .i64 An, .int .i64 Ao]] ?_;with_reducible refine (spec_IsVec.calls _ _ _ _ AD.out).mono ?_
  rintro e AL ⟨rfl, hb⟩;refine ⟨_, rfl, ?_⟩;replace Aa := bB Aa hb;replace Ab := bB Ab hb;replace HB := bS2 HB Af Ah hb;(try clear hb);(try clear hb2);(try clear hk);(try clear hi);refine hK.out _ _ (cb3 Aa (eb6 Ab)).out (fun hHeld => ?_);clear hK K;refine norm_ (a' := ?_) ?_ ?_;rotate_left
  ·show Act.put _ (some 28) _ = _
   simp only [Act.put, sA, sB, sC, i64_w, i32_w];rfl
  refine pu 22 (some 29) (bT 24 23) HT_ ?_
 rotate_left
 refine pf 19 (some 26) (bT 24 20) HT_ ?_
 refine pf 20 (some 27) (bT 24 21) HT_ ?_
 refine pf 21 (some 28) (bT 24 22) HT_ ?_
 refine pu 22 (some 29) (bT 24 23) HT_ ?_
 rotate_left
 all_goals
  refine pu 23 (some 6) (bT 24 24) HT_ ?_;refine done_ (done_of HT_.out (by kernel_rfl)) ?_;try go_wp2
  go_ret
  exact er (bbw2 HB Af Ah)
end Go.Proofs.Ytedmadofpdkekaa.PA
