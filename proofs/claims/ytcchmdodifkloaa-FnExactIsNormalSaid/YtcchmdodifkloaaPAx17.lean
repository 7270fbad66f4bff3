/- Walks written by program: each Go function that the law reaches comes to the plain function beside it. -/
import Derived.Test.YtcchmdodifkloaaPAx0
import Derived.Test.YtcchmdodifkloaaPAx2
import Derived.Test.YtcchmdodifkloaaPAx8
import Derived.Test.YtcchmdodifkloaaPAx16
namespace Go.Proofs.Ytcchmdodifkloaa.PA
open Go.RowKit Go.Proofs.YtcchmdodifkloaaW.PrintWords Go.Proofs.YtcchmdodifkloaaW.PrintLast Go.Proofs.YtcchmdodifkloaaW.PrintMore
attribute [local go_sem] max2_int min2_int max_two min_two max_three min_three max_four min_four   -- for this text's walks alone
set_option linter.unusedVariables false
set_option linter.unusedSimpArgs false

attribute [local go_sem high] eqA51
/-! ### spec_l07Code: function 35 -/
def spec_l07Code.f (k : Nat) (a0 : Int) (a1_0 : Int) (a1_1 : Int) (a1_2 : Int) (l2 : List (S55)) (a3 : Bool) : Option (Int) := if a3 = true then ((spec_IsGroup.f k a0 a1_0 a1_1 a1_2 l2).bind fun t512 => ((spec_l06Code.f a0 a1_0 a1_1 a1_2 t512).bind fun t513 => (some t513))) else ((spec_l06Code.f a0 a1_0 a1_1 a1_2 false).bind fun t514 => (some t514))
def spec_l07Code.T1 : Bool × List (List Nat × List Nat) := (true, [([], []), ([], []), ([], []), ([2], [2]), ([3], [3]), ([3], [3]), ([3], [3]), ([4, 5, 6, 3, 3], [3, 4, 5, 6]), ([3, 7], [3, 7]), ([0, 1, 8, 7], [0, 1, 8]), ([9, 9, 0, 1, 2, 3, 4, 5, 6, 7, 8, 9], [9])])
def spec_l07Code.B1 : List Nat := [0, 0, 0, 4, 12, 12, 12, 124, 252, 511, 1023]
theorem spec_l07Code.tab1 : rtab .any (opsOf Try.f35 1) = spec_l07Code.T1 := by kernel_rfl
theorem spec_l07Code.bits1 : waitsOk spec_l07Code.T1.2 spec_l07Code.B1 = true := by kernel_rfl
set_option maxHeartbeats 8000000 in
set_option maxRecDepth 100000 in
theorem spec_l07Code.calls (k : Nat) (a0 : Int) (a1_0 : Int) (a1_1 : Int) (a1_2 : Int) (A2 : Option Addr) (c2 : Nat) (l2 : List (S55)) (a3 : Bool) (r : Int) (w : World) (hr2 : Kd.C k55 w A2 l2.length l2) (hc2 : l2.length ≤ c2) (h : spec_l07Code.f k a0 a1_0 a1_1 a1_2 l2 a3 = some r) :
  Calls Try.prog 35 #[.int .i64 a0, .agg #[.int .i64 a1_0, .int .i64 a1_1, .int .i64 a1_2], .slice A2 l2.length c2, .bool a3] w fun e w' => e = .returned (.int .i64 r) ∧ Below w.heap.size w w' := by
 have hu27 := Try.underlying27
 have HR2 := Aside0.mk hr2
 have HC2 := Aside0.mk hc2
 clear hr2 hc2
 have HB := asd (Below.refl w.heap.size w)
 have H : (if a3 = true then ((spec_IsGroup.f k a0 a1_0 a1_1 a1_2 l2).bind fun t512 => ((spec_l06Code.f a0 a1_0 a1_1 a1_2 t512).bind fun t513 => (some t513))) else ((spec_l06Code.f a0 a1_0 a1_1 a1_2 false).bind fun t514 => (some t514))) = some r := h
 clear h
 by_cases c5 : a3 = true
 subst c5
 replace H := ifT H
 obtain ⟨t512, A6, H⟩ := ob H
 try dsimp only at H
 obtain ⟨t513, A7, H⟩ := ob H
 try dsimp only at H
 obtain rfl := Option.some.inj H
 rotate_left
 replace c5 := Bool.eq_false_iff.mpr c5
 subst c5
 replace H := ifF H
 obtain ⟨t514, A7, H⟩ := ob H
 try dsimp only at H
 obtain rfl := Option.some.inj H
 rotate_left
 all_goals
  go_enter Try.func35, Try.ntmps35
  try go_wp2_with (first | ((with_reducible refine gd 5 rfl ?_); refine bx #[.int .i64 a1_0, .int .i64 a1_1, .int .i64 a1_2] 27 ?_; intro gb511 hg w8 BK511 hb; have GE511 := ngw0 hg HB; replace HB := bS0 HB hb; clear hb hg))
  replace BK511 := asd (blk_drew BK511.out)
  replace HB := asd (below_drew1 HB.out)
  refine sh 11 (eb3 BK511) (fun hHeld => ?_); refine with_tabW spec_l07Code.tab1 spec_l07Code.bits1 (fun HT_ HW_ => ?_)
  generalize w8.drew = w9 at BK511 HB hHeld ⊢
  refine pu 0 (some 9) (bt 11 1) HT_ ?_
  refine pu 2 (some 11) (bs 11 5) HT_ ?_
  refine pu 3 (some 12) (bs 11 13) HT_ ?_
 focus
  refine pu 4 (some 13) (bs 11 29) HT_ ?_
  refine pu 6 (some 15) (bs 11 93) HT_ ?_
  refine ta 1 (some 10) (bs 11 95) HT_ HW_ hHeld ?_
  refine ta 5 (some 14) (bt 11 7) HT_ HW_ hHeld ?_
  refine ro 7 (some 16) (bt 11 8) HT_ (fun K hK => ?_)
  refine gs Try.func29 #[.int .i64 a0, .agg #[.int .i64 a1_0, .int .i64 a1_1, .int .i64 a1_2], .slice A2 l2.length c2] ?_
  with_reducible refine (spec_IsGroup.calls _ _ _ _ _ _ _ _ _ _ ?side1 ?side2 A6.out).mono ?_
  (case side1 => exact ks (Kd.C_below HR2.out HB.out))
  (case side2 => exact HC2.out)
  rintro e w10 ⟨rfl, hb⟩
  refine ⟨_, rfl, ?_⟩
  replace BK511 := bB BK511 hb
  replace HB := bS1 HB GE511 hb
  (try clear hb)
  (try clear hb2)
  (try clear hk)
  (try clear hi)
  refine hK.out _ _ (eb3 BK511).out (fun hHeld => ?_)
  clear hK K
  refine norm_ (a' := ?_) ?_ ?_
  rotate_left
  ·show Act.put _ (some 16) _ = _
   simp only [Act.put, sA, sB, sC, i64_w, i32_w]
   rfl
  refine pu 8 (some 17) (bt 11 9) HT_ ?_
  refine ro 9 (some 18) (bt 11 10) HT_ (fun K hK => ?_)
  refine gs Try.func39 #[.int .i64 a0, .agg #[.int .i64 a1_0, .int .i64 a1_1, .int .i64 a1_2], .bool t512] ?_
 rotate_left
 refine pf 4 (some 13) (bs 11 29) HT_ ?_
 refine pf 5 (some 14) (bs 11 61) HT_ ?_
 refine pf 6 (some 15) (bs 11 125) HT_ ?_
 refine pf 7 (some 16) (bs 11 253) HT_ ?_
 refine pu 8 (some 17) (bs 11 509) HT_ ?_
 refine ta 1 (some 10) (bt 11 9) HT_ HW_ hHeld ?_
 refine ro 9 (some 18) (bt 11 10) HT_ (fun K hK => ?_)
 refine gs Try.func39 #[.int .i64 a0, .agg #[.int .i64 a1_0, .int .i64 a1_1, .int .i64 a1_2], .bool false] ?_
 rotate_left
 all_goals
  with_reducible refine (spec_l06Code.calls _ _ _ _ _ _ _ A7.out).mono ?_
  rintro e w11 ⟨rfl, hb⟩
  refine ⟨_, rfl, ?_⟩
  replace BK511 := bB BK511 hb
  replace HB := bS1 HB GE511 hb
  (try clear hb)
  (try clear hb2)
  (try clear hk)
  (try clear hi)
  refine hK.out _ _ (eb3 BK511).out (fun hHeld => ?_)
  clear hK K
  refine norm_ (a' := ?_) ?_ ?_
  rotate_left
  ·show Act.put _ (some 18) _ = _
   simp only [Act.put, sA, sB, sC, i64_w, i32_w]
   rfl
  refine pu 10 (some 8) (bt 11 11) HT_ ?_
  refine done_ (done_of HT_.out (by kernel_rfl)) ?_
  try go_wp2
  go_ret
  exact er (bbw1 HB GE511)
/-! ### impl_Mat_det: function 70 -/
def impl_Mat_det.f (a0_0 : Int) (a0_1 : Int) (a0_2 : Int) (a0_3 : Int) : Option (Int) := some (wrap64 ((wrap64 (a0_0 * a0_3)) - (wrap64 (a0_1 * a0_2))))
set_option maxHeartbeats 8000000 in
set_option maxRecDepth 100000 in
theorem impl_Mat_det.calls (a0_0 : Int) (a0_1 : Int) (a0_2 : Int) (a0_3 : Int) (r : Int) (w : World) (h : impl_Mat_det.f a0_0 a0_1 a0_2 a0_3 = some r) :
  Calls Try.prog 70 #[.agg #[.int .i64 a0_0, .int .i64 a0_1, .int .i64 a0_2, .int .i64 a0_3]] w fun e w' => e = .returned (.int .i64 r) ∧ Below w.heap.size w w' := by
 have hu51 := Try.underlying51
 have HB := asd (Below.refl w.heap.size w)
 have H : (some (wrap64 ((wrap64 (a0_0 * a0_3)) - (wrap64 (a0_1 * a0_2))))) = some r := h
 clear h
 obtain rfl := Option.some.inj H
 go_enter Try.func70, Try.ntmps70
 go_wp2_with (first | ((with_reducible refine gd 1 rfl ?_); refine bx #[.int .i64 a0_0, .int .i64 a0_1, .int .i64 a0_2, .int .i64 a0_3] 51 ?_; intro gb536 hg w2 BK536 hb; have GE536 := ngw0 hg HB; replace HB := bS0 HB hb; clear hb hg; obtain ⟨hcz3_0, hcz3_1, hcz3_2, hcz3_3, hfz3_0, hfz3_1, hfz3_2, hfz3_3⟩ := bz4 BK536))
 go_ret
 exact er (bbw1 HB GE536)

end Go.Proofs.Ytcchmdodifkloaa.PA
