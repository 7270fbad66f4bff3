/- Walks written by program: each Go function that the law reaches comes to the plain function beside it. -/
import Derived.Test.YtcchmdodifkloaaPAx0
import Derived.Test.YtcchmdodifkloaaPAx5
import Derived.Test.YtcchmdodifkloaaPAx6
import Derived.Test.YtcchmdodifkloaaPAx7
import Derived.Test.YtcchmdodifkloaaPAx8
import Derived.Test.YtcchmdodifkloaaPAx9
import Derived.Test.YtcchmdodifkloaaPAx17
namespace Go.Proofs.Ytcchmdodifkloaa.PA
open Go.RowKit Go.Proofs.YtcchmdodifkloaaW.PrintWords Go.Proofs.YtcchmdodifkloaaW.PrintLast Go.Proofs.YtcchmdodifkloaaW.PrintMore
attribute [local go_sem] max2_int min2_int max_two min_two max_three min_three max_four min_four   -- for this text's walks alone
set_option linter.unusedVariables false
set_option linter.unusedSimpArgs false

/-! ### spec_l15Code: function 43 -/
def spec_l15Code.f (k : Nat) (a0 : Int) (a1_0 : Int) (a1_1 : Int) (a1_2 : Int) (l2 : List (S55)) (l3 : List (S55)) : Option (Int) := (spec_IsGroup.f k a0 a1_0 a1_1 a1_2 l3).bind fun t675 => ((spec_l07Code.f k a0 a1_0 a1_1 a1_2 l2 t675).bind fun t676 => (if t676 = 0 then (if (l2.length : Int) > 48 then (some 3) else ((spec_l15Inside.f k l2 l3).bind fun t677 => (if t677 = true then (some 0) else (some 5)))) else (some t676)))
def spec_l15Code.T1 : Bool × List (List Nat × List Nat) := (true, [([], []), ([], []), ([], []), ([], []), ([], []), ([], []), ([3, 4, 5], [3, 4, 5]), ([0, 1, 2, 6, 6], [0, 1, 2, 6]), ([7, 7, 0, 1, 2, 3, 4, 5, 6, 7], [7])])
def spec_l15Code.B1 : List Nat := [0, 0, 0, 0, 0, 0, 56, 127, 255]
theorem spec_l15Code.tab1 : rtab .any (opsOf Try.f43 1) = spec_l15Code.T1 := by kernel_rfl
theorem spec_l15Code.bits1 : waitsOk spec_l15Code.T1.2 spec_l15Code.B1 = true := by kernel_rfl
set_option maxHeartbeats 8000000 in
set_option maxRecDepth 100000 in
theorem spec_l15Code.calls (k : Nat) (a0 : Int) (a1_0 : Int) (a1_1 : Int) (a1_2 : Int) (A2 : Option Addr) (c2 : Nat) (l2 : List (S55)) (A3 : Option Addr) (c3 : Nat) (l3 : List (S55)) (r : Int) (w : World) (hr2 : Kd.C k55 w A2 l2.length l2) (hc2 : l2.length ≤ c2) (hr3 : Kd.C k55 w A3 l3.length l3) (hc3 : l3.length ≤ c3) (h : spec_l15Code.f k a0 a1_0 a1_1 a1_2 l2 l3 = some r) :
  Calls Try.prog 43 #[.int .i64 a0, .agg #[.int .i64 a1_0, .int .i64 a1_1, .int .i64 a1_2], .slice A2 l2.length c2, .slice A3 l3.length c3] w fun e w' => e = .returned (.int .i64 r) ∧ Below w.heap.size w w' := by
 have hu27 := Try.underlying27
 have HR2 := Aside0.mk hr2
 have HC2 := Aside0.mk hc2
 clear hr2 hc2
 have HR3 := Aside0.mk hr3
 have HC3 := Aside0.mk hc3
 clear hr3 hc3
 have HB := asd (Below.refl w.heap.size w)
 have H : ((spec_IsGroup.f k a0 a1_0 a1_1 a1_2 l3).bind fun t675 => ((spec_l07Code.f k a0 a1_0 a1_1 a1_2 l2 t675).bind fun t676 => (if t676 = 0 then (if (l2.length : Int) > 48 then (some 3) else ((spec_l15Inside.f k l2 l3).bind fun t677 => (if t677 = true then (some 0) else (some 5)))) else (some t676)))) = some r := h
 clear h
 obtain ⟨t675, A5, H⟩ := ob H
 try dsimp only at H
 obtain ⟨t676, A6, H⟩ := ob H
 try dsimp only at H
 by_cases c7 : t676 = 0
 rw [if_pos c7] at H
 have c7b0 : (t676 == 0) = true := beq_iff_eq.mpr c7
 have c7b1 : (t676 != 0) = false := bne_eq_false_iff_eq.mpr c7
 clear c7
 by_cases c8 : (l2.length : Int) > 48
 rw [if_pos c8] at H
 have c8b0 : decide (48 < (l2.length : Int)) = true := decide_eq_true c8
 have c8b1 : decide (48 < l2.length) = true := decide_eq_true (by omega)
 clear c8
 obtain rfl := Option.some.inj H
 rotate_left
 rw [if_neg c8] at H
 have c8b0 : decide (48 < (l2.length : Int)) = false := decide_eq_false c8
 have c8b1 : decide (48 < l2.length) = false := decide_eq_false (by omega)
 clear c8
 obtain ⟨t677, A13, H⟩ := ob H
 try dsimp only at H
 by_cases c14 : t677 = true
 subst c14
 replace H := ifT H
 obtain rfl := Option.some.inj H
 rotate_left
 replace c14 := Bool.eq_false_iff.mpr c14
 subst c14
 replace H := ifF H
 obtain rfl := Option.some.inj H
 rotate_left
 rw [if_neg c7] at H
 have c7b0 : (t676 == 0) = false := beq_eq_false_iff_ne.mpr c7
 have c7b1 : (t676 != 0) = true := bne_iff_ne.mpr c7
 obtain rfl := Option.some.inj H
 rotate_left
 all_goals
  go_enter Try.func43, Try.ntmps43
  try go_wp2_with (first | ((with_reducible refine gd 5 rfl ?_); refine bx #[.int .i64 a1_0, .int .i64 a1_1, .int .i64 a1_2] 27 ?_; intro gb674 hg w9 BK674 hb; have GE674 := ngw0 hg HB; replace HB := bS0 HB hb; clear hb hg))
  replace BK674 := asd (blk_drew BK674.out)
  replace HB := asd (below_drew1 HB.out)
  refine sh 9 (eb3 BK674) (fun hHeld => ?_); refine with_tabW spec_l15Code.tab1 spec_l15Code.bits1 (fun HT_ HW_ => ?_)
  generalize w9.drew = w10 at BK674 HB hHeld ⊢
  refine pu 0 (some 10) (bt 9 1) HT_ ?_
  refine pu 2 (some 12) (bs 9 5) HT_ ?_
  refine pu 3 (some 13) (bs 9 13) HT_ ?_
  refine pu 5 (some 15) (bs 9 45) HT_ ?_
  refine ta 1 (some 11) (bs 9 47) HT_ HW_ hHeld ?_
  refine ta 4 (some 14) (bt 9 6) HT_ HW_ hHeld ?_
  refine ro 6 (some 16) (bt 9 7) HT_ (fun K hK => ?_)
  refine gs Try.func29 #[.int .i64 a0, .agg #[.int .i64 a1_0, .int .i64 a1_1, .int .i64 a1_2], .slice A3 l3.length c3] ?_
  with_reducible refine (spec_IsGroup.calls _ _ _ _ _ _ _ _ _ _ ?side1 ?side2 A5.out).mono ?_
  (case side1 => exact ks (Kd.C_below HR3.out HB.out))
  (case side2 => exact HC3.out)
  rintro e w11 ⟨rfl, hb⟩
  refine ⟨_, rfl, ?_⟩
  replace BK674 := bB BK674 hb
  replace HB := bS1 HB GE674 hb
  (try clear hb)
  (try clear hb2)
  (try clear hk)
  (try clear hi)
  refine hK.out _ _ (eb3 BK674).out (fun hHeld => ?_)
  clear hK K
  refine norm_ (a' := ?_) ?_ ?_
  rotate_left
  ·show Act.put _ (some 16) _ = _
   simp only [Act.put, sA, sB, sC, i64_w, i32_w]
   rfl
  refine ro 7 (some 17) (bt 9 8) HT_ (fun K hK => ?_)
  refine gs Try.func35 #[.int .i64 a0, .agg #[.int .i64 a1_0, .int .i64 a1_1, .int .i64 a1_2], .slice A2 l2.length c2, .bool t675] ?_
  with_reducible refine (spec_l07Code.calls _ _ _ _ _ _ _ _ _ _ _ ?side1 ?side2 A6.out).mono ?_
  (case side1 => exact ks (Kd.C_below HR2.out HB.out))
  (case side2 => exact HC2.out)
  rintro e w12 ⟨rfl, hb⟩
  refine ⟨_, rfl, ?_⟩
  replace BK674 := bB BK674 hb
  replace HB := bS1 HB GE674 hb
  (try clear hb)
  (try clear hb2)
  (try clear hk)
  (try clear hi)
  refine hK.out _ _ (eb3 BK674).out (fun hHeld => ?_)
  clear hK K
  refine norm_ (a' := ?_) ?_ ?_
  rotate_left
  ·show Act.put _ (some 17) _ = _
   simp only [Act.put, sA, sB, sC, i64_w, i32_w]
   rfl
  refine pu 8 (some 9) (bt 9 9) HT_ ?_
  refine done_ (done_of HT_.out (by kernel_rfl)) ?_
 ·try go_wp2
  go_ret
  exact er (bbw1 HB GE674)
 rotate_left 2
 ·try go_wp2
  go_ret
  exact er (bbw1 HB GE674)
 all_goals
  try go_wp2_with (first | ((with_reducible refine gate_callee (f := 30) rfl ?_); refine gl 29 Try.func30 #[.slice A2 l2.length c2, .slice A3 l3.length c3] ?_; (with_reducible refine (spec_l15Inside.calls _ _ _ _ _ _ _ _ _ ?side1 ?side2 ?side3 ?side4 A13.out).mono ?_); (case side1 => exact ks (Kd.C_below HR2.out HB.out)); (case side2 => exact HC2.out); (case side3 => exact ks (Kd.C_below HR3.out HB.out)); (case side4 => exact HC3.out); rintro e w19 ⟨rfl, hb⟩; refine ⟨_, rfl, ?_⟩; replace BK674 := bB BK674 hb; replace HB := bS1 HB GE674 hb; (try clear hb)))
  go_ret
  exact er (bbw1 HB GE674)
/-! ### spec_l02Inverse: function 73 -/
def spec_l02Inverse.f (a0_0 : Int) (a0_1 : Int) (a0_2 : Int) (a0_3 : Int) : Option (Int × Int × Int × Int) := (spec_l02Det.f a0_0 a0_1 a0_2 a0_3).bind fun t680 => (some (wrap64 (t680 * a0_3), wrap64 ((wrap64 (-t680)) * a0_1), wrap64 ((wrap64 (-t680)) * a0_2), wrap64 (t680 * a0_0)))
set_option maxHeartbeats 8000000 in
set_option maxRecDepth 100000 in
theorem spec_l02Inverse.calls (a0_0 : Int) (a0_1 : Int) (a0_2 : Int) (a0_3 : Int) (r1 : Int) (r2 : Int) (r3 : Int) (r4 : Int) (w : World) (h : spec_l02Inverse.f a0_0 a0_1 a0_2 a0_3 = some (r1, r2, r3, r4)) :
  Calls Try.prog 73 #[.agg #[.int .i64 a0_0, .int .i64 a0_1, .int .i64 a0_2, .int .i64 a0_3]] w fun e w' => e = .returned (.agg #[.int .i64 r1, .int .i64 r2, .int .i64 r3, .int .i64 r4]) ∧ Below w.heap.size w w' := by
 have hu51 := Try.underlying51
 have HB := asd (Below.refl w.heap.size w)
 have H : ((spec_l02Det.f a0_0 a0_1 a0_2 a0_3).bind fun t680 => (some (wrap64 (t680 * a0_3), wrap64 ((wrap64 (-t680)) * a0_1), wrap64 ((wrap64 (-t680)) * a0_2), wrap64 (t680 * a0_0)))) = some (r1, r2, r3, r4) := h
 clear h
 obtain ⟨t680, A2, H⟩ := ob H
 try dsimp only at H
 simp only [Option.some.injEq, Prod.mk.injEq] at H
 obtain ⟨rfl, rfl, rfl, rfl⟩ := H
 go_enter Try.func73, Try.ntmps73
 go_wp2_with (first | ((with_reducible refine gd 1 rfl ?_); refine bx #[.int .i64 a0_0, .int .i64 a0_1, .int .i64 a0_2, .int .i64 a0_3] 51 ?_; intro gb678 hg w3 BK678 hb; have GE678 := ngw0 hg HB; replace HB := bS0 HB hb; clear hb hg) | ((with_reducible refine gd 2 rfl ?_); refine bx #[.int .i64 0, .int .i64 0, .int .i64 0, .int .i64 0] 51 ?_; intro gb679 hg w4 BK679 hb; have GE679 := ngw1 hg HB GE678; replace HB := bS1 HB GE678 hb; have NB678_679 := nlt hg BK678; have NB679_678 := nsy (nlt hg BK678); replace BK678 := bB BK678 hb; clear hb hg; have hnb5 := NB678_679.out; have hnc5 := NB679_678.out; obtain ⟨hcz6_0, hcz6_1, hcz6_2, hcz6_3, hfz6_0, hfz6_1, hfz6_2, hfz6_3⟩ := bz4 BK678) | ((with_reducible refine gate_callee (f := 36) rfl ?_); refine gl 5 Try.func36 #[.agg #[.int .i64 a0_0, .int .i64 a0_1, .int .i64 a0_2, .int .i64 a0_3]] ?_; (with_reducible refine (spec_l02Det.calls _ _ _ _ _ _ A2.out).mono ?_); rintro e w7 ⟨rfl, hb⟩; refine ⟨_, rfl, ?_⟩; replace BK678 := bB BK678 hb; replace BK679 := bB BK679 hb; replace HB := bS2 HB GE678 GE679 hb; (try clear hb); obtain ⟨hcz8_0, hcz8_1, hcz8_2, hcz8_3, hfz8_0, hfz8_1, hfz8_2, hfz8_3⟩ := bz4 BK678; obtain ⟨hcz9_0, hcz9_1, hcz9_2, hcz9_3, hfz9_0, hfz9_1, hfz9_2, hfz9_3⟩ := bz4 BK679))
 refine bodyPost_ret (results_cell_row rfl _ _ gb679 51 #[.int .i64 (wrap64 (t680 * a0_3)), .int .i64 (wrap64 ((wrap64 (-t680)) * a0_1)), .int .i64 (wrap64 ((wrap64 (-t680)) * a0_2)), .int .i64 (wrap64 (t680 * a0_0))] (0, 0) _ rfl (bq0 BK679) Try.underlying51 rfl (by kernel_rfl)) rfl ?_
 exact er (bbw2 HB GE678 GE679)
/-! ### spec_l05Inverse: function 44 -/
def spec_l05Inverse.f (a0_0 : Int) (a0_1 : Int) (a0_2 : Int) (a0_3 : Int) (a0_4 : Int) (a0_5 : Int) : Option (Int × Int × Int × Int × Int × Int) := (spec_l02Inverse.f a0_0 a0_1 a0_2 a0_3).bind fun bt683 => ((spec_l02Apply.f bt683.1 bt683.2.1 bt683.2.2.1 bt683.2.2.2 a0_4 a0_5).bind fun bt688 => ((spec_l01Scale.f bt688.1 bt688.2 (-1)).bind fun bt690 => (some (bt683.1, bt683.2.1, bt683.2.2.1, bt683.2.2.2, bt690.1, bt690.2))))
def spec_l05Inverse.T2 : Bool × List (List Nat × List Nat) := (true, [([], []), ([], []), ([], []), ([2], [2]), ([1, 3], [1, 3]), ([4, 4], [4]), ([0, 5], [0, 5]), ([6, 5, 0, 1, 2, 3, 4, 5, 6], [6])])
def spec_l05Inverse.B2 : List Nat := [0, 0, 0, 4, 14, 30, 63, 127]
theorem spec_l05Inverse.tab2 : rtab .any (opsOf Try.f44 2) = spec_l05Inverse.T2 := by kernel_rfl
theorem spec_l05Inverse.bits2 : waitsOk spec_l05Inverse.T2.2 spec_l05Inverse.B2 = true := by kernel_rfl
set_option maxHeartbeats 8000000 in
set_option maxRecDepth 100000 in
theorem spec_l05Inverse.calls (a0_0 : Int) (a0_1 : Int) (a0_2 : Int) (a0_3 : Int) (a0_4 : Int) (a0_5 : Int) (r1 : Int) (r2 : Int) (r3 : Int) (r4 : Int) (r5 : Int) (r6 : Int) (w : World) (h : spec_l05Inverse.f a0_0 a0_1 a0_2 a0_3 a0_4 a0_5 = some (r1, r2, r3, r4, r5, r6)) :
  Calls Try.prog 44 #[.agg #[.int .i64 a0_0, .int .i64 a0_1, .int .i64 a0_2, .int .i64 a0_3, .int .i64 a0_4, .int .i64 a0_5]] w fun e w' => e = .returned (.agg #[.int .i64 r1, .int .i64 r2, .int .i64 r3, .int .i64 r4, .int .i64 r5, .int .i64 r6]) ∧ Below w.heap.size w w' := by
 have hu55 := Try.underlying55
 have hu51 := Try.underlying51
 have hu53 := Try.underlying53
 have HB := asd (Below.refl w.heap.size w)
 have H : ((spec_l02Inverse.f a0_0 a0_1 a0_2 a0_3).bind fun bt683 => ((spec_l02Apply.f bt683.1 bt683.2.1 bt683.2.2.1 bt683.2.2.2 a0_4 a0_5).bind fun bt688 => ((spec_l01Scale.f bt688.1 bt688.2 (-1)).bind fun bt690 => (some (bt683.1, bt683.2.1, bt683.2.2.1, bt683.2.2.2, bt690.1, bt690.2))))) = some (r1, r2, r3, r4, r5, r6) := h
 clear h
 obtain ⟨⟨t683, t684, t685, t686⟩, A2, H⟩ := ob H
 try dsimp only at H
 obtain ⟨⟨t688, t689⟩, A3, H⟩ := ob H
 try dsimp only at H
 obtain ⟨⟨t690, t691⟩, A4, H⟩ := ob H
 try dsimp only at H
 simp only [Option.some.injEq, Prod.mk.injEq] at H
 obtain ⟨rfl, rfl, rfl, rfl, rfl, rfl⟩ := H
 go_enter Try.func44, Try.ntmps44
 try go_wp2_with (first | ((with_reducible refine gd 1 rfl ?_); refine bx #[.int .i64 a0_0, .int .i64 a0_1, .int .i64 a0_2, .int .i64 a0_3, .int .i64 a0_4, .int .i64 a0_5] 55 ?_; intro gb681 hg w5 BK681 hb; have GE681 := ngw0 hg HB; replace HB := bS0 HB hb; clear hb hg) | ((with_reducible refine gd 2 rfl ?_); refine bx #[.int .i64 0, .int .i64 0, .int .i64 0, .int .i64 0, .int .i64 0, .int .i64 0] 55 ?_; intro gb682 hg w6 BK682 hb; have GE682 := ngw1 hg HB GE681; replace HB := bS1 HB GE681 hb; have NB681_682 := nlt hg BK681; have NB682_681 := nsy (nlt hg BK681); replace BK681 := bB BK681 hb; clear hb hg; have hnb7 := NB681_682.out; have hnc7 := NB682_681.out; obtain ⟨hcz8_0, hcz8_1, hcz8_2, hcz8_3, hcz8_4, hcz8_5, hfz8_0, hfz8_1, hfz8_2, hfz8_3, hfz8_4, hfz8_5⟩ := bz6 BK681) | ((with_reducible refine gate_callee (f := 73) rfl ?_); refine gl 6 Try.func73 #[.agg #[.int .i64 a0_0, .int .i64 a0_1, .int .i64 a0_2, .int .i64 a0_3]] ?_; (with_reducible refine (spec_l02Inverse.calls _ _ _ _ _ _ _ _ _ A2.out).mono ?_); rintro e w9 ⟨rfl, hb⟩; refine ⟨_, rfl, ?_⟩; replace BK681 := bB BK681 hb; replace BK682 := bB BK682 hb; replace HB := bS2 HB GE681 GE682 hb; (try clear hb)) | ((with_reducible refine gd 3 rfl ?_); refine bx #[.int .i64 0, .int .i64 0, .int .i64 0, .int .i64 0] 51 ?_; intro gb687 hg w10 BK687 hb; have GE687 := ngw2 hg HB GE681 GE682; replace HB := bS2 HB GE681 GE682 hb; have NB681_687 := nlt hg BK681; have NB687_681 := nsy (nlt hg BK681); replace BK681 := bB BK681 hb; have NB682_687 := nlt hg BK682; have NB687_682 := nsy (nlt hg BK682); replace BK682 := bB BK682 hb; clear hb hg; have hnb11 := NB687_681.out; have hnc11 := NB681_687.out; have hnb12 := NB687_682.out; have hnc12 := NB682_687.out; obtain ⟨hcz13_0, hcz13_1, hcz13_2, hcz13_3, hfz13_0, hfz13_1, hfz13_2, hfz13_3⟩ := bz4 BK687))
 obtain ⟨w14, h_w14⟩ : ∃ w_, ((((w10.setCell ⟨gb687, 0, none⟩ (.int .i64 t683)).setCell ⟨gb687, 1, none⟩ (.int .i64 t684)).setCell ⟨gb687, 2, none⟩ (.int .i64 t685)).setCell ⟨gb687, 3, none⟩ (.int .i64 t686)) = w_ := ⟨_, rfl⟩
 replace BK681 : Aside0 (w14.heap[gb681]? = some (.cells #[.int .i64 a0_0, .int .i64 a0_1, .int .i64 a0_2, .int .i64 a0_3, .int .i64 a0_4, .int .i64 a0_5] 55 (0, 0))) := by rw [← h_w14]; exact ⟨bq1 BK681 NB681_687⟩
 replace BK682 : Aside0 (w14.heap[gb682]? = some (.cells #[.int .i64 0, .int .i64 0, .int .i64 0, .int .i64 0, .int .i64 0, .int .i64 0] 55 (0, 0))) := by rw [← h_w14]; exact ⟨bq1 BK682 NB682_687⟩
 replace BK687 : Aside0 (w14.heap[gb687]? = some (.cells #[.int .i64 t683, .int .i64 t684, .int .i64 t685, .int .i64 t686] 51 (0, 0))) := by rw [← h_w14]; exact ⟨bq0 BK687⟩
 replace HB : Aside0 (Below w.heap.size w w14) := by rw [← h_w14]; exact ⟨bbw3 HB GE681 GE682 GE687⟩
 (try rw [h_w14]); clear h_w14
 replace BK681 := asd (blk_drew BK681.out)
 replace BK682 := asd (blk_drew BK682.out)
 replace BK687 := asd (blk_drew BK687.out)
 replace HB := asd (below_drew1 HB.out)
 refine sh 8 (cb4 BK687 (eb6 BK681)) (fun hHeld => ?_); refine with_tabW spec_l05Inverse.tab2 spec_l05Inverse.bits2 (fun HT_ HW_ => ?_)
 generalize w14.drew = w15 at BK681 BK682 BK687 HB hHeld ⊢
 refine pu 2 (some 9) (bs 8 4) HT_ ?_
 refine ta 0 (some 7) (bs 8 5) HT_ HW_ hHeld ?_
 refine ta 1 (some 8) (bt 8 3) HT_ HW_ hHeld ?_
 refine ta 3 (some 10) (bt 8 4) HT_ HW_ hHeld ?_
 refine ro 4 (some 11) (bt 8 5) HT_ (fun K hK => ?_)
 refine gs Try.func75 #[.agg #[.int .i64 t683, .int .i64 t684, .int .i64 t685, .int .i64 t686], .agg #[.int .i64 a0_4, .int .i64 a0_5]] ?_
 with_reducible refine (spec_l02Apply.calls _ _ _ _ _ _ _ _ _ A3.out).mono ?_
 rintro e w16 ⟨rfl, hb⟩
 refine ⟨_, rfl, ?_⟩
 replace BK681 := bB BK681 hb
 replace BK682 := bB BK682 hb
 replace BK687 := bB BK687 hb
 replace HB := bS3 HB GE681 GE682 GE687 hb
 (try clear hb)
 (try clear hb2)
 (try clear hk)
 (try clear hi)
 refine hK.out _ _ (cb4 BK687 (eb6 BK681)).out (fun hHeld => ?_)
 clear hK K
 refine norm_ (a' := ?_) ?_ ?_
 rotate_left
 ·show Act.put _ (some 11) _ = _
  simp only [Act.put, sA, sB, sC, i64_w, i32_w]
  rfl
 refine ro 5 (some 12) (bt 8 6) HT_ (fun K hK => ?_)
 refine gs Try.func74 #[.agg #[.int .i64 t688, .int .i64 t689], .int .i64 (-1)] ?_
 with_reducible refine (spec_l01Scale.calls _ _ _ _ _ _ A4.out).mono ?_
 rintro e w17 ⟨rfl, hb⟩
 refine ⟨_, rfl, ?_⟩
 replace BK681 := bB BK681 hb
 replace BK682 := bB BK682 hb
 replace BK687 := bB BK687 hb
 replace HB := bS3 HB GE681 GE682 GE687 hb
 (try clear hb)
 (try clear hb2)
 (try clear hk)
 (try clear hi)
 refine hK.out _ _ (cb4 BK687 (eb6 BK681)).out (fun hHeld => ?_)
 clear hK K
 refine norm_ (a' := ?_) ?_ ?_
 rotate_left
 ·show Act.put _ (some 12) _ = _
  simp only [Act.put, sA, sB, sC, i64_w, i32_w]
  rfl
 refine pu 6 (some 13) (bt 8 7) HT_ ?_
 refine ro 7 (none) (bt 8 8) HT_ (fun K hK => ?_)
 have hs18 : w17.cell? ⟨gb682, 0, none⟩ = some (.int .i64 0) := bcl BK682 0
 have hfs18 := blk_frozen BK682.out 0
 have hns18_0 := NB681_682.out
 have hns18_2 := NB687_682.out
 have hms18_0 := NB682_681.out
 have hms18_2 := NB682_687.out
 have hs19 : w17.cell? ⟨gb682, 1, none⟩ = some (.int .i64 0) := bcl BK682 1
 have hfs19 := blk_frozen BK682.out 1
 have hns19_0 := NB681_682.out
 have hns19_2 := NB687_682.out
 have hms19_0 := NB682_681.out
 have hms19_2 := NB682_687.out
 have hs20 : w17.cell? ⟨gb682, 2, none⟩ = some (.int .i64 0) := bcl BK682 2
 have hfs20 := blk_frozen BK682.out 2
 have hns20_0 := NB681_682.out
 have hns20_2 := NB687_682.out
 have hms20_0 := NB682_681.out
 have hms20_2 := NB682_687.out
 have hs21 : w17.cell? ⟨gb682, 3, none⟩ = some (.int .i64 0) := bcl BK682 3
 have hfs21 := blk_frozen BK682.out 3
 have hns21_0 := NB681_682.out
 have hns21_2 := NB687_682.out
 have hms21_0 := NB682_681.out
 have hms21_2 := NB682_687.out
 have hs22 : w17.cell? ⟨gb682, 4, none⟩ = some (.int .i64 0) := bcl BK682 4
 have hfs22 := blk_frozen BK682.out 4
 have hns22_0 := NB681_682.out
 have hns22_2 := NB687_682.out
 have hms22_0 := NB682_681.out
 have hms22_2 := NB682_687.out
 have hs23 : w17.cell? ⟨gb682, 5, none⟩ = some (.int .i64 0) := bcl BK682 5
 have hfs23 := blk_frozen BK682.out 5
 have hns23_0 := NB681_682.out
 have hns23_2 := NB687_682.out
 have hms23_0 := NB682_681.out
 have hms23_2 := NB682_687.out
 refine skip_ (w1 := ?_) (by rfl) rfl ?_ ?_
 rotate_left
 ·go_simp
  rfl
 refine hK.out _ _ ⟨(cf NB687_682 ((cf NB687_682 ((cf NB687_682 ((cf NB687_682 ((cf NB687_682 ((cf NB687_682 (hHeld.1)))))))))))), (cf NB687_682 ((cf NB687_682 ((cf NB687_682 ((cf NB687_682 ((cf NB687_682 ((cf NB687_682 (hHeld.2.1)))))))))))), (cf NB687_682 ((cf NB687_682 ((cf NB687_682 ((cf NB687_682 ((cf NB687_682 ((cf NB687_682 (hHeld.2.2.1)))))))))))), (cf NB687_682 ((cf NB687_682 ((cf NB687_682 ((cf NB687_682 ((cf NB687_682 ((cf NB687_682 (hHeld.2.2.2.1)))))))))))), (cf NB681_682 ((cf NB681_682 ((cf NB681_682 ((cf NB681_682 ((cf NB681_682 ((cf NB681_682 (hHeld.2.2.2.2.1)))))))))))), (cf NB681_682 ((cf NB681_682 ((cf NB681_682 ((cf NB681_682 ((cf NB681_682 ((cf NB681_682 (hHeld.2.2.2.2.2.1)))))))))))), (cf NB681_682 ((cf NB681_682 ((cf NB681_682 ((cf NB681_682 ((cf NB681_682 ((cf NB681_682 (hHeld.2.2.2.2.2.2.1)))))))))))), (cf NB681_682 ((cf NB681_682 ((cf NB681_682 ((cf NB681_682 ((cf NB681_682 ((cf NB681_682 (hHeld.2.2.2.2.2.2.2.1)))))))))))), (cf NB681_682 ((cf NB681_682 ((cf NB681_682 ((cf NB681_682 ((cf NB681_682 ((cf NB681_682 (hHeld.2.2.2.2.2.2.2.2.1)))))))))))), (cf NB681_682 ((cf NB681_682 ((cf NB681_682 ((cf NB681_682 ((cf NB681_682 ((cf NB681_682 (hHeld.2.2.2.2.2.2.2.2.2))))))))))))⟩ (fun hHeld => ?_)
 clear hK K
 refine done_ (done_of HT_.out (by kernel_rfl)) ?_
 try go_wp2
 refine bodyPost_ret (results_cell_row rfl _ _ gb682 55 #[.int .i64 t683, .int .i64 t684, .int .i64 t685, .int .i64 t686, .int .i64 t690, .int .i64 t691] (0, 0) _ rfl (bq0 BK682) Try.underlying55 rfl (by kernel_rfl)) rfl ?_
 exact er (bbw3 HB GE681 GE682 GE687)
/-! ### spec_l15Product: function 46 -/
def spec_l15Product.f (a0_0 : Int) (a0_1 : Int) (a0_2 : Int) (a1_0 : Int) (a1_1 : Int) (a1_2 : Int) (a1_3 : Int) (a1_4 : Int) (a1_5 : Int) (a2_0 : Int) (a2_1 : Int) (a2_2 : Int) (a2_3 : Int) (a2_4 : Int) (a2_5 : Int) : Option (Int × Int × Int × Int × Int × Int) := (spec_l05Compose.f a1_0 a1_1 a1_2 a1_3 a1_4 a1_5 a2_0 a2_1 a2_2 a2_3 a2_4 a2_5).bind fun bt696 => ((spec_l06Reduce.f a0_0 a0_1 a0_2 bt696.1 bt696.2.1 bt696.2.2.1 bt696.2.2.2.1 bt696.2.2.2.2.1 bt696.2.2.2.2.2).bind fun bt702 => (some (bt702.1, bt702.2.1, bt702.2.2.1, bt702.2.2.2.1, bt702.2.2.2.2.1, bt702.2.2.2.2.2)))
set_option maxHeartbeats 8000000 in
set_option maxRecDepth 100000 in
theorem spec_l15Product.calls (a0_0 : Int) (a0_1 : Int) (a0_2 : Int) (a1_0 : Int) (a1_1 : Int) (a1_2 : Int) (a1_3 : Int) (a1_4 : Int) (a1_5 : Int) (a2_0 : Int) (a2_1 : Int) (a2_2 : Int) (a2_3 : Int) (a2_4 : Int) (a2_5 : Int) (r1 : Int) (r2 : Int) (r3 : Int) (r4 : Int) (r5 : Int) (r6 : Int) (w : World) (h : spec_l15Product.f a0_0 a0_1 a0_2 a1_0 a1_1 a1_2 a1_3 a1_4 a1_5 a2_0 a2_1 a2_2 a2_3 a2_4 a2_5 = some (r1, r2, r3, r4, r5, r6)) :
  Calls Try.prog 46 #[.agg #[.int .i64 a0_0, .int .i64 a0_1, .int .i64 a0_2], .agg #[.int .i64 a1_0, .int .i64 a1_1, .int .i64 a1_2, .int .i64 a1_3, .int .i64 a1_4, .int .i64 a1_5], .agg #[.int .i64 a2_0, .int .i64 a2_1, .int .i64 a2_2, .int .i64 a2_3, .int .i64 a2_4, .int .i64 a2_5]] w fun e w' => e = .returned (.agg #[.int .i64 r1, .int .i64 r2, .int .i64 r3, .int .i64 r4, .int .i64 r5, .int .i64 r6]) ∧ Below w.heap.size w w' := by
 have hu27 := Try.underlying27
 have hu55 := Try.underlying55
 have HB := asd (Below.refl w.heap.size w)
 have H : ((spec_l05Compose.f a1_0 a1_1 a1_2 a1_3 a1_4 a1_5 a2_0 a2_1 a2_2 a2_3 a2_4 a2_5).bind fun bt696 => ((spec_l06Reduce.f a0_0 a0_1 a0_2 bt696.1 bt696.2.1 bt696.2.2.1 bt696.2.2.2.1 bt696.2.2.2.2.1 bt696.2.2.2.2.2).bind fun bt702 => (some (bt702.1, bt702.2.1, bt702.2.2.1, bt702.2.2.2.1, bt702.2.2.2.2.1, bt702.2.2.2.2.2)))) = some (r1, r2, r3, r4, r5, r6) := h
 clear h
 obtain ⟨⟨t696, t697, t698, t699, t700, t701⟩, A4, H⟩ := ob H
 try dsimp only at H
 obtain ⟨⟨t702, t703, t704, t705, t706, t707⟩, A5, H⟩ := ob H
 try dsimp only at H
 simp only [Option.some.injEq, Prod.mk.injEq] at H
 obtain ⟨rfl, rfl, rfl, rfl, rfl, rfl⟩ := H
 go_enter Try.func46, Try.ntmps46
 try go_wp2_with (first | ((with_reducible refine gd 3 rfl ?_); refine bx #[.int .i64 a0_0, .int .i64 a0_1, .int .i64 a0_2] 27 ?_; intro gb692 hg w6 BK692 hb; have GE692 := ngw0 hg HB; replace HB := bS0 HB hb; clear hb hg) | ((with_reducible refine gd 4 rfl ?_); refine bx #[.int .i64 a1_0, .int .i64 a1_1, .int .i64 a1_2, .int .i64 a1_3, .int .i64 a1_4, .int .i64 a1_5] 55 ?_; intro gb693 hg w7 BK693 hb; have GE693 := ngw1 hg HB GE692; replace HB := bS1 HB GE692 hb; have NB692_693 := nlt hg BK692; have NB693_692 := nsy (nlt hg BK692); replace BK692 := bB BK692 hb; clear hb hg) | ((with_reducible refine gd 5 rfl ?_); refine bx #[.int .i64 a2_0, .int .i64 a2_1, .int .i64 a2_2, .int .i64 a2_3, .int .i64 a2_4, .int .i64 a2_5] 55 ?_; intro gb694 hg w8 BK694 hb; have GE694 := ngw2 hg HB GE692 GE693; replace HB := bS2 HB GE692 GE693 hb; have NB692_694 := nlt hg BK692; have NB694_692 := nsy (nlt hg BK692); replace BK692 := bB BK692 hb; have NB693_694 := nlt hg BK693; have NB694_693 := nsy (nlt hg BK693); replace BK693 := bB BK693 hb; clear hb hg) | ((with_reducible refine gd 6 rfl ?_); refine bx #[.int .i64 0, .int .i64 0, .int .i64 0, .int .i64 0, .int .i64 0, .int .i64 0] 55 ?_; intro gb695 hg w9 BK695 hb; have GE695 := ngw3 hg HB GE692 GE693 GE694; replace HB := bS3 HB GE692 GE693 GE694 hb; have NB692_695 := nlt hg BK692; have NB695_692 := nsy (nlt hg BK692); replace BK692 := bB BK692 hb; have NB693_695 := nlt hg BK693; have NB695_693 := nsy (nlt hg BK693); replace BK693 := bB BK693 hb; have NB694_695 := nlt hg BK694; have NB695_694 := nsy (nlt hg BK694); replace BK694 := bB BK694 hb; clear hb hg))
 replace BK692 := asd (blk_drew BK692.out)
 replace BK693 := asd (blk_drew BK693.out)
 replace BK694 := asd (blk_drew BK694.out)
 replace BK695 := asd (blk_drew BK695.out)
 replace HB := asd (below_drew1 HB.out)
 refine sh 6 (cb3 BK692 (cb6 BK693 (eb6 BK694))) (fun hHeld => ?_)
 generalize w9.drew = w10 at BK692 BK693 BK694 BK695 HB hHeld ⊢
 refine take_ (i := 0) (N := some 7) (v := ?_) (a' := ?_) (bt 6 1) rfl rfl (by kernel_rfl) (fun _ _ _ h => h) (Or.inl ⟨by rfl, ?_⟩) hHeld ?_ ?_
 rotate_left
 ·rintro w' ⟨s0, s1, s2, s3, s4, s5, s6, s7, s8, s9, s10, s11, s12, s13, s14⟩
  go_simp
  with_reducible rfl
 rotate_left
 ·simp only [Act.put, sA, sB, sC, i64_w, i32_w]
  rfl
 refine take_ (i := 1) (N := some 8) (v := ?_) (a' := ?_) (bt 6 2) rfl rfl (by kernel_rfl) (fun _ _ _ h => h) (Or.inl ⟨by rfl, ?_⟩) hHeld ?_ ?_
 rotate_left
 ·rintro w' ⟨s0, s1, s2, s3, s4, s5, s6, s7, s8, s9, s10, s11, s12, s13, s14⟩
  go_simp
  with_reducible rfl
 rotate_left
 ·simp only [Act.put, sA, sB, sC, i64_w, i32_w]
  rfl
 refine take_ (i := 2) (N := some 9) (v := ?_) (a' := ?_) (bt 6 3) rfl rfl (by kernel_rfl) (fun _ _ _ h => h) (Or.inl ⟨by rfl, ?_⟩) hHeld ?_ ?_
 rotate_left
 ·rintro w' ⟨s0, s1, s2, s3, s4, s5, s6, s7, s8, s9, s10, s11, s12, s13, s14⟩
  go_simp
  with_reducible rfl
 rotate_left
 ·simp only [Act.put, sA, sB, sC, i64_w, i32_w]
  rfl
 refine one_ (i := 3) (N := some 10) (bt 6 4) rfl rfl (by kernel_rfl) (by decide) (fun K hK => ?_)
 refine gs Try.func47 #[.agg #[.int .i64 a1_0, .int .i64 a1_1, .int .i64 a1_2, .int .i64 a1_3, .int .i64 a1_4, .int .i64 a1_5], .agg #[.int .i64 a2_0, .int .i64 a2_1, .int .i64 a2_2, .int .i64 a2_3, .int .i64 a2_4, .int .i64 a2_5]] ?_
 with_reducible refine (spec_l05Compose.calls _ _ _ _ _ _ _ _ _ _ _ _ _ _ _ _ _ _ _ A4.out).mono ?_
 rintro e w11 ⟨rfl, hb⟩
 refine ⟨_, rfl, ?_⟩
 replace BK692 := bB BK692 hb
 replace BK693 := bB BK693 hb
 replace BK694 := bB BK694 hb
 replace BK695 := bB BK695 hb
 replace HB := bS4 HB GE692 GE693 GE694 GE695 hb
 (try clear hb)
 (try clear hb2)
 (try clear hk)
 (try clear hi)
 refine hK.out _ _ (cb3 BK692 (cb6 BK693 (eb6 BK694))).out (fun hHeld => ?_)
 clear hK K
 refine norm_ (a' := ?_) ?_ ?_
 rotate_left
 ·show Act.put _ (some 10) _ = _
  simp only [Act.put, sA, sB, sC, i64_w, i32_w]
  rfl
 refine one_ (i := 4) (N := some 11) (bt 6 5) rfl rfl (by kernel_rfl) (by decide) (fun K hK => ?_)
 refine gs Try.func58 #[.agg #[.int .i64 a0_0, .int .i64 a0_1, .int .i64 a0_2], .agg #[.int .i64 t696, .int .i64 t697, .int .i64 t698, .int .i64 t699, .int .i64 t700, .int .i64 t701]] ?_
 with_reducible refine (spec_l06Reduce.calls _ _ _ _ _ _ _ _ _ _ _ _ _ _ _ _ A5.out).mono ?_
 rintro e w12 ⟨rfl, hb⟩
 refine ⟨_, rfl, ?_⟩
 replace BK692 := bB BK692 hb
 replace BK693 := bB BK693 hb
 replace BK694 := bB BK694 hb
 replace BK695 := bB BK695 hb
 replace HB := bS4 HB GE692 GE693 GE694 GE695 hb
 (try clear hb)
 (try clear hb2)
 (try clear hk)
 (try clear hi)
 refine hK.out _ _ (cb3 BK692 (cb6 BK693 (eb6 BK694))).out (fun hHeld => ?_)
 clear hK K
 refine norm_ (a' := ?_) ?_ ?_
 rotate_left
 ·show Act.put _ (some 11) _ = _
  simp only [Act.put, sA, sB, sC, i64_w, i32_w]
  rfl
 refine one_ (i := 5) (N := none) (bt 6 6) rfl rfl (by kernel_rfl) (by decide) (fun K hK => ?_)
 have hs13 : w12.cell? ⟨gb695, 0, none⟩ = some (.int .i64 0) := bcl BK695 0
 have hfs13 := blk_frozen BK695.out 0
 have hns13_0 := NB692_695.out
 have hns13_1 := NB693_695.out
 have hns13_2 := NB694_695.out
 have hms13_0 := NB695_692.out
 have hms13_1 := NB695_693.out
 have hms13_2 := NB695_694.out
 have hs14 : w12.cell? ⟨gb695, 1, none⟩ = some (.int .i64 0) := bcl BK695 1
 have hfs14 := blk_frozen BK695.out 1
 have hns14_0 := NB692_695.out
 have hns14_1 := NB693_695.out
 have hns14_2 := NB694_695.out
 have hms14_0 := NB695_692.out
 have hms14_1 := NB695_693.out
 have hms14_2 := NB695_694.out
 have hs15 : w12.cell? ⟨gb695, 2, none⟩ = some (.int .i64 0) := bcl BK695 2
 have hfs15 := blk_frozen BK695.out 2
 have hns15_0 := NB692_695.out
 have hns15_1 := NB693_695.out
 have hns15_2 := NB694_695.out
 have hms15_0 := NB695_692.out
 have hms15_1 := NB695_693.out
 have hms15_2 := NB695_694.out
 have hs16 : w12.cell? ⟨gb695, 3, none⟩ = some (.int .i64 0) := bcl BK695 3
 have hfs16 := blk_frozen BK695.out 3
 have hns16_0 := NB692_695.out
 have hns16_1 := NB693_695.out
 have hns16_2 := NB694_695.out
 have hms16_0 := NB695_692.out
 have hms16_1 := NB695_693.out
 have hms16_2 := NB695_694.out
 have hs17 : w12.cell? ⟨gb695, 4, none⟩ = some (.int .i64 0) := bcl BK695 4
 have hfs17 := blk_frozen BK695.out 4
 have hns17_0 := NB692_695.out
 have hns17_1 := NB693_695.out
 have hns17_2 := NB694_695.out
 have hms17_0 := NB695_692.out
 have hms17_1 := NB695_693.out
 have hms17_2 := NB695_694.out
 have hs18 : w12.cell? ⟨gb695, 5, none⟩ = some (.int .i64 0) := bcl BK695 5
 have hfs18 := blk_frozen BK695.out 5
 have hns18_0 := NB692_695.out
 have hns18_1 := NB693_695.out
 have hns18_2 := NB694_695.out
 have hms18_0 := NB695_692.out
 have hms18_1 := NB695_693.out
 have hms18_2 := NB695_694.out
 refine skip_ (w1 := ?_) (by rfl) rfl ?_ ?_
 rotate_left
 ·go_simp
  rfl
 refine hK.out _ _ ⟨(cf NB692_695 ((cf NB692_695 ((cf NB692_695 ((cf NB692_695 ((cf NB692_695 ((cf NB692_695 (hHeld.1)))))))))))), (cf NB692_695 ((cf NB692_695 ((cf NB692_695 ((cf NB692_695 ((cf NB692_695 ((cf NB692_695 (hHeld.2.1)))))))))))), (cf NB692_695 ((cf NB692_695 ((cf NB692_695 ((cf NB692_695 ((cf NB692_695 ((cf NB692_695 (hHeld.2.2.1)))))))))))), (cf NB693_695 ((cf NB693_695 ((cf NB693_695 ((cf NB693_695 ((cf NB693_695 ((cf NB693_695 (hHeld.2.2.2.1)))))))))))), (cf NB693_695 ((cf NB693_695 ((cf NB693_695 ((cf NB693_695 ((cf NB693_695 ((cf NB693_695 (hHeld.2.2.2.2.1)))))))))))), (cf NB693_695 ((cf NB693_695 ((cf NB693_695 ((cf NB693_695 ((cf NB693_695 ((cf NB693_695 (hHeld.2.2.2.2.2.1)))))))))))), (cf NB693_695 ((cf NB693_695 ((cf NB693_695 ((cf NB693_695 ((cf NB693_695 ((cf NB693_695 (hHeld.2.2.2.2.2.2.1)))))))))))), (cf NB693_695 ((cf NB693_695 ((cf NB693_695 ((cf NB693_695 ((cf NB693_695 ((cf NB693_695 (hHeld.2.2.2.2.2.2.2.1)))))))))))), (cf NB693_695 ((cf NB693_695 ((cf NB693_695 ((cf NB693_695 ((cf NB693_695 ((cf NB693_695 (hHeld.2.2.2.2.2.2.2.2.1)))))))))))), (cf NB694_695 ((cf NB694_695 ((cf NB694_695 ((cf NB694_695 ((cf NB694_695 ((cf NB694_695 (hHeld.2.2.2.2.2.2.2.2.2.1)))))))))))), (cf NB694_695 ((cf NB694_695 ((cf NB694_695 ((cf NB694_695 ((cf NB694_695 ((cf NB694_695 (hHeld.2.2.2.2.2.2.2.2.2.2.1)))))))))))), (cf NB694_695 ((cf NB694_695 ((cf NB694_695 ((cf NB694_695 ((cf NB694_695 ((cf NB694_695 (hHeld.2.2.2.2.2.2.2.2.2.2.2.1)))))))))))), (cf NB694_695 ((cf NB694_695 ((cf NB694_695 ((cf NB694_695 ((cf NB694_695 ((cf NB694_695 (hHeld.2.2.2.2.2.2.2.2.2.2.2.2.1)))))))))))), (cf NB694_695 ((cf NB694_695 ((cf NB694_695 ((cf NB694_695 ((cf NB694_695 ((cf NB694_695 (hHeld.2.2.2.2.2.2.2.2.2.2.2.2.2.1)))))))))))), (cf NB694_695 ((cf NB694_695 ((cf NB694_695 ((cf NB694_695 ((cf NB694_695 ((cf NB694_695 (hHeld.2.2.2.2.2.2.2.2.2.2.2.2.2.2))))))))))))⟩ (fun hHeld => ?_)
 clear hK K
 refine done_ (by kernel_rfl) ?_
 try go_wp2
 refine bodyPost_ret (results_cell_row rfl _ _ gb695 55 #[.int .i64 t702, .int .i64 t703, .int .i64 t704, .int .i64 t705, .int .i64 t706, .int .i64 t707] (0, 0) _ rfl (bq0 BK695) Try.underlying55 rfl (by kernel_rfl)) rfl ?_
 exact er (bbw4 HB GE692 GE693 GE694 GE695)
/-! ### spec_IsNormal: function 22 -/
mutual
def spec_IsNormal.l0 : Nat → List (S55) → List (S55) → Int → Int → Int → Int → Option (Bool × Int)
 | 0, _, _, _, _, _, _ => none
 | k + 1, x2, x3, x11, x709000, x709001, x709002 => if x11 < (x2.length : Int) then (if 0 ≤ x11 then ((spec_l05Inverse.f ((rd_T55 x2 x11).f0.f0) ((rd_T55 x2 x11).f0.f1) ((rd_T55 x2 x11).f0.f2) ((rd_T55 x2 x11).f0.f3) ((rd_T55 x2 x11).f1.f0) ((rd_T55 x2 x11).f1.f1)).bind fun bt711 => (spec_IsNormal.l1 k x2 x3 x11 0 x709000 x709001 x709002 bt711.1 bt711.2.1 bt711.2.2.1 bt711.2.2.2.1 bt711.2.2.2.2.1 bt711.2.2.2.2.2)) else (none)) else (some (true, 0))
def spec_IsNormal.l1 : Nat → List (S55) → List (S55) → Int → Int → Int → Int → Int → Int → Int → Int → Int → Int → Int → Option (Bool × Int)
 | 0, _, _, _, _, _, _, _, _, _, _, _, _, _ => none
 | k + 1, x2, x3, x11, x13, x709000, x709001, x709002, x718000, x718001, x718002, x718003, x718004, x718005 => if x13 < (x3.length : Int) then (if 0 ≤ x11 then (if x11 < (x2.length : Int) then (if 0 ≤ x13 then ((spec_l05Compose.f ((rd_T55 x2 x11).f0.f0) ((rd_T55 x2 x11).f0.f1) ((rd_T55 x2 x11).f0.f2) ((rd_T55 x2 x11).f0.f3) ((rd_T55 x2 x11).f1.f0) ((rd_T55 x2 x11).f1.f1) ((rd_T55 x3 x13).f0.f0) ((rd_T55 x3 x13).f0.f1) ((rd_T55 x3 x13).f0.f2) ((rd_T55 x3 x13).f0.f3) ((rd_T55 x3 x13).f1.f0) ((rd_T55 x3 x13).f1.f1)).bind fun bt720 => ((spec_l15Product.f x709000 x709001 x709002 bt720.1 bt720.2.1 bt720.2.2.1 bt720.2.2.2.1 bt720.2.2.2.2.1 bt720.2.2.2.2.2 x718000 x718001 x718002 x718003 x718004 x718005).bind fun bt726 => ((spec_l06Has.f k x3 bt726.1 bt726.2.1 bt726.2.2.1 bt726.2.2.2.1 bt726.2.2.2.2.1 bt726.2.2.2.2.2).bind fun t732 => (if t732 = true then (spec_IsNormal.l1 k x2 x3 x11 (wrap64 (x13 + 1)) x709000 x709001 x709002 x718000 x718001 x718002 x718003 x718004 x718005) else (some (false, 0)))))) else (none)) else (none)) else (none)) else (spec_IsNormal.l0 k x2 x3 (wrap64 (x11 + 1)) x709000 x709001 x709002)
end
def spec_IsNormal.f (k : Nat) (a0 : Int) (a1_0 : Int) (a1_1 : Int) (a1_2 : Int) (l2 : List (S55)) (l3 : List (S55)) : Option (Bool × Int) := (spec_l15Code.f k a0 a1_0 a1_1 a1_2 l2 l3).bind fun t709 => (if t709 = 0 then (spec_IsNormal.l0 k l2 l3 0 a1_0 a1_1 a1_2) else (some (false, t709)))
def spec_IsNormal.T11 : Bool × List (List Nat × List Nat) := (true, [([], []), ([], []), ([], []), ([], []), ([2, 3], [2, 3]), ([4], [4]), ([], []), ([], []), ([6, 7], [6, 7]), ([8], [8]), ([5, 9], [5, 9]), ([], []), ([1, 10, 11, 10], [1, 10, 11]), ([0, 12, 12], [0, 12]), ([13], [13])])
def spec_IsNormal.B11 : List Nat := [0, 0, 0, 0, 12, 28, 0, 0, 192, 448, 1020, 0, 4094, 8191, 16383]
theorem spec_IsNormal.tab11 : rtab .any (opsOf Try.f22 11) = spec_IsNormal.T11 := by kernel_rfl
theorem spec_IsNormal.bits11 : waitsOk spec_IsNormal.T11.2 spec_IsNormal.B11 = true := by kernel_rfl
set_option maxHeartbeats 8000000 in
set_option maxRecDepth 100000 in
theorem spec_IsNormal.calls (k : Nat) (a0 : Int) (a1_0 : Int) (a1_1 : Int) (a1_2 : Int) (A2 : Option Addr) (c2 : Nat) (l2 : List (S55)) (A3 : Option Addr) (c3 : Nat) (l3 : List (S55)) (r1 : Bool) (r2 : Int) (w : World) (hr2 : Kd.C k55 w A2 l2.length l2) (hc2 : l2.length ≤ c2) (hr3 : Kd.C k55 w A3 l3.length l3) (hc3 : l3.length ≤ c3) (h : spec_IsNormal.f k a0 a1_0 a1_1 a1_2 l2 l3 = some (r1, r2)) :
  Calls Try.prog 22 #[.int .i64 a0, .agg #[.int .i64 a1_0, .int .i64 a1_1, .int .i64 a1_2], .slice A2 l2.length c2, .slice A3 l3.length c3] w fun e w' => e = .returned (.tuple #[.bool r1, .int .i64 r2]) ∧ Below w.heap.size w w' := by
 have hu27 := Try.underlying27
 have hu55 := Try.underlying55
 have HR2 := Aside0.mk hr2
 have HC2 := Aside0.mk hc2
 clear hr2 hc2
 have HR3 := Aside0.mk hr3
 have HC3 := Aside0.mk hc3
 clear hr3 hc3
 have HB := asd (Below.refl w.heap.size w)
 have H : ((spec_l15Code.f k a0 a1_0 a1_1 a1_2 l2 l3).bind fun t709 => (if t709 = 0 then (spec_IsNormal.l0 k l2 l3 0 a1_0 a1_1 a1_2) else (some (false, t709)))) = some (r1, r2) := h
 clear h
 obtain ⟨t709, A5, H⟩ := ob H
 try dsimp only at H
 by_cases c6 : t709 = 0
 rw [if_pos c6] at H
 have c6b0 : (t709 == 0) = true := beq_iff_eq.mpr c6
 have c6b1 : (t709 != 0) = false := bne_eq_false_iff_eq.mpr c6
 clear c6
 have H' := Aside0.mk H
 clear H
 rotate_left
 rw [if_neg c6] at H
 have c6b0 : (t709 == 0) = false := beq_eq_false_iff_ne.mpr c6
 have c6b1 : (t709 != 0) = true := bne_iff_ne.mpr c6
 rotate_left
 rotate_left
 simp only [Option.some.injEq, Prod.mk.injEq] at H
 obtain ⟨rfl, rfl⟩ := H
 rotate_left
 all_goals
  go_enter Try.func22, Try.ntmps22
  go_wp2_with (first | ((with_reducible refine gd 5 rfl ?_); refine bx #[.int .i64 a1_0, .int .i64 a1_1, .int .i64 a1_2] 27 ?_; intro gb708 hg w7 BK708 hb; have GE708 := ngw0 hg HB; replace HB := bS0 HB hb; clear hb hg; obtain ⟨hcz8_0, hcz8_1, hcz8_2, hfz8_0, hfz8_1, hfz8_2⟩ := bz3 BK708) | ((with_reducible refine gate_callee (f := 43) rfl ?_); refine gl 18 Try.func43 #[.int .i64 a0, .agg #[.int .i64 a1_0, .int .i64 a1_1, .int .i64 a1_2], .slice A2 l2.length c2, .slice A3 l3.length c3] ?_; (with_reducible refine (spec_l15Code.calls _ _ _ _ _ _ _ _ _ _ _ _ _ ?side1 ?side2 ?side3 ?side4 A5.out).mono ?_); (case side1 => exact ks (Kd.C_below HR2.out HB.out)); (case side2 => exact HC2.out); (case side3 => exact ks (Kd.C_below HR3.out HB.out)); (case side4 => exact HC3.out); rintro e w9 ⟨rfl, hb⟩; refine ⟨_, rfl, ?_⟩; replace BK708 := bB BK708 hb; replace HB := bS1 HB GE708 hb; (try clear hb)))
 ·go_loopg [11] k (fun kq v11 w' => ∃ (x11_1 : Int), v11 = .int .i64 x11_1 ∧ Aside0 (spec_IsNormal.l0 kq l2 l3 x11_1 a1_0 a1_1 a1_2 = some (r1, r2)) ∧ Aside0 (kq ≤ k) ∧ Aside0 (w'.heap[gb708]? = some (.cells #[.int .i64 a1_0, .int .i64 a1_1, .int .i64 a1_2] 27 (0, 0))) ∧ Aside0 (Below w.heap.size w w'))
  case atStart => exact ⟨(0), (by first | rfl | (simp; done) | (simp [*]; done)), H', ⟨Nat.le_refl _⟩, ⟨bkp BK708⟩, ⟨bbw1 HB GE708⟩⟩
  case round =>
   clear H'
   try clear c2
   try clear p2
   try clear c3
   try clear c4
   try clear c6
   try clear c6b0
   try clear c6b1
   try clear hcz8_0
   try clear hcz8_1
   try clear hcz8_2
   try clear hfz8_0
   try clear hfz8_1
   try clear hfz8_2
   obtain ⟨x11_1, rfl, HA, HK1, BK708, HB⟩ := hrel
   cases gk with
   | zero => exact absurd HA.out (by simp [spec_IsNormal.l0])
   | succ k1 =>
    have H := HA.out
    clear HA
    simp only [spec_IsNormal.l0] at H
    by_cases c10 : x11_1 < (l2.length : Int)
    rw [if_pos c10] at H
    have c10b0 := decide_eq_true c10
    clear c10
    by_cases c11 : 0 ≤ x11_1
    rw [if_pos c11] at H
    have c11b0 := decide_eq_true c11
    clear c11
    obtain ⟨⟨t711, t712, t713, t714, t715, t716⟩, A12, H⟩ := ob H
    try dsimp only at H
    have H' := Aside0.mk H
    clear H
    rotate_left
    ·rw [if_neg c11] at H
     exact absurd H (by simp)
    rw [if_neg c10] at H
    have c10b0 := decide_eq_false c10
    clear c10
    rotate_left
    ·obtain ⟨p710, q710, ad710, e710, hx710_0, hx710_1, hx710_2, hx710_3, hx710_4, hx710_5⟩ := at_T55x HR2.out HB x11_1
     cases e710
     go_wp2_with (first | ((with_reducible refine gate_callee (f := 44) rfl ?_); refine gl 32 Try.func44 #[.agg #[.int .i64 ((rd_T55 l2 x11_1).f0.f0), .int .i64 ((rd_T55 l2 x11_1).f0.f1), .int .i64 ((rd_T55 l2 x11_1).f0.f2), .int .i64 ((rd_T55 l2 x11_1).f0.f3), .int .i64 ((rd_T55 l2 x11_1).f1.f0), .int .i64 ((rd_T55 l2 x11_1).f1.f1)]] ?_; (with_reducible refine (spec_l05Inverse.calls _ _ _ _ _ _ _ _ _ _ _ _ _ A12.out).mono ?_); rintro e w13 ⟨rfl, hb⟩; refine ⟨_, rfl, ?_⟩; replace BK708 := bB BK708 hb; replace HB := bS1 HB GE708 hb; (try clear hb)) | ((with_reducible refine gd 12 rfl ?_); refine bx #[.int .i64 0, .int .i64 0, .int .i64 0, .int .i64 0, .int .i64 0, .int .i64 0] 55 ?_; intro gb717 hg w14 BK717 hb; have GE717 := ngw1 hg HB GE708; replace HB := bS1 HB GE708 hb; have NB708_717 := nlt hg BK708; have NB717_708 := nsy (nlt hg BK708); replace BK708 := bB BK708 hb; clear hb hg; have hnb15 := NB717_708.out; have hnc15 := NB708_717.out; obtain ⟨hcz16_0, hcz16_1, hcz16_2, hcz16_3, hcz16_4, hcz16_5, hfz16_0, hfz16_1, hfz16_2, hfz16_3, hfz16_4, hfz16_5⟩ := bz6 BK717))
     go_loopg [13] k1 (fun kq v13 w' => ∃ (x13_2 : Int), v13 = .int .i64 x13_2 ∧ Aside0 (spec_IsNormal.l1 kq l2 l3 x11_1 x13_2 a1_0 a1_1 a1_2 t711 t712 t713 t714 t715 t716 = some (r1, r2)) ∧ Aside0 (kq ≤ k1) ∧ Aside0 (w'.heap[gb708]? = some (.cells #[.int .i64 a1_0, .int .i64 a1_1, .int .i64 a1_2] 27 (0, 0))) ∧ Aside0 (w'.heap[gb717]? = some (.cells #[.int .i64 t711, .int .i64 t712, .int .i64 t713, .int .i64 t714, .int .i64 t715, .int .i64 t716] 55 (0, 0))) ∧ Aside0 (Below w.heap.size w w'))
     case atStart => exact ⟨(0), (by first | rfl | (simp; done) | (simp [*]; done)), H', ⟨Nat.le_refl _⟩, ⟨bq1 BK708 NB708_717⟩, ⟨bq0 BK717⟩, ⟨bbw2 HB GE708 GE717⟩⟩
     case round =>
      clear H'
      try clear c1
      try clear c2
      try clear p2
      try clear c3
      try clear c4
      try clear c6
      try clear c6b0
      try clear c6b1
      try clear p7
      try clear q7
      try clear hx7
      try clear c10
      try clear c10b0
      try clear c11
      try clear c11b0
      try clear c15
      try clear hcz16_0
      try clear hcz16_1
      try clear hcz16_2
      try clear hcz16_3
      try clear hcz16_4
      try clear hcz16_5
      try clear hcz8_0
      try clear hcz8_1
      try clear hcz8_2
      try clear hfz16_0
      try clear hfz16_1
      try clear hfz16_2
      try clear hfz16_3
      try clear hfz16_4
      try clear hfz16_5
      try clear hfz8_0
      try clear hfz8_1
      try clear hfz8_2
      try clear hx710_0
      try clear hx710_1
      try clear hx710_2
      try clear hx710_3
      try clear hx710_4
      try clear hx710_5
      try clear p2
      try clear p710
      try clear q710
      obtain ⟨x13_2, rfl, HA, HK2, BK708, BK717, HB⟩ := hrel
      cases gk with
      | zero => exact absurd HA.out (by simp [spec_IsNormal.l1])
      | succ k2 =>
       have H := HA.out
       clear HA
       simp only [spec_IsNormal.l1] at H
       by_cases c17 : x13_2 < (l3.length : Int)
       rw [if_pos c17] at H
       have c17b0 := decide_eq_true c17
       clear c17
       by_cases c18 : 0 ≤ x11_1
       rw [if_pos c18] at H
       have c18b0 := decide_eq_true c18
       clear c18
       by_cases c19 : x11_1 < (l2.length : Int)
       rw [if_pos c19] at H
       have c19b0 := decide_eq_true c19
       clear c19
       by_cases c20 : 0 ≤ x13_2
       rw [if_pos c20] at H
       have c20b0 := decide_eq_true c20
       clear c20
       obtain ⟨⟨t720, t721, t722, t723, t724, t725⟩, A21, H⟩ := ob H
       try dsimp only at H
       obtain ⟨⟨t726, t727, t728, t729, t730, t731⟩, A22, H⟩ := ob H
       try dsimp only at H
       obtain ⟨t732, A23, H⟩ := ob H
       try dsimp only at H
       by_cases c24 : t732 = true
       subst c24
       replace H := ifT H
       have H' := Aside0.mk H
       clear H
       rotate_left
       replace c24 := Bool.eq_false_iff.mpr c24
       subst c24
       replace H := ifF H
       rotate_left
       ·rw [if_neg c20] at H
        exact absurd H (by simp)
       ·rw [if_neg c19] at H
        exact absurd H (by simp)
       ·rw [if_neg c18] at H
        exact absurd H (by simp)
       rw [if_neg c17] at H
       have c17b0 := decide_eq_false c17
       clear c17
       have H' := Aside0.mk H
       clear H
       rotate_left
       rotate_left
       simp only [Option.some.injEq, Prod.mk.injEq] at H
       obtain ⟨rfl, rfl⟩ := H
       rotate_left
       ·go_wp2
        go_roundg k2
        case measure => have := HK1.out; have := HK2.out; omega
        case rel => exact ⟨(wrap64 (x11_1 + 1)), (by first | rfl | (simp; done) | (simp [*]; done)), H', ⟨by have := HK1.out; have := HK2.out; omega⟩, ⟨bkp BK708⟩, ⟨bbw2 HB GE708 GE717⟩⟩
       all_goals
        try go_wp2
        replace BK708 := asd (blk_drew BK708.out)
        replace BK717 := asd (blk_drew BK717.out)
        replace HB := asd (below_drew1 HB.out)
        obtain ⟨p718, q718, ad718, e718, hw718_0, hw718_1, hw718_2, hw718_3, hw718_4, hw718_5, hx718_0, hx718_1, hx718_2, hx718_3, hx718_4, hx718_5⟩ := at_T55w HR2.out HB x11_1
        obtain rfl : ad710 = ad718 := (by injection e718)
        obtain ⟨p719, q719, ad719, e719, hw719_0, hw719_1, hw719_2, hw719_3, hw719_4, hw719_5, hx719_0, hx719_1, hx719_2, hx719_3, hx719_4, hx719_5⟩ := at_T55w HR3.out HB x13_2
        cases e719
        refine sh 15 (cb3 BK708 (cb6 BK717 (cx6 HB hw718_0 hw718_1 hw718_2 hw718_3 hw718_4 hw718_5 (ex6 HB hw719_0 hw719_1 hw719_2 hw719_3 hw719_4 hw719_5)))) (fun hHeld => ?_); refine with_tabW spec_IsNormal.tab11 spec_IsNormal.bits11 (fun HT_ HW_ => ?_)
        generalize wr.drew = w25 at BK708 BK717 HB hx718_0 hx718_1 hx718_2 hx718_3 hx718_4 hx718_5 hx719_0 hx719_1 hx719_2 hx719_3 hx719_4 hx719_5 hHeld ⊢
        refine pu 0 (some 39) (bt 15 1) HT_ ?_
        refine pu 2 (some 41) (bs 15 5) HT_ ?_
        refine pu 3 (some 42) (bs 15 13) HT_ ?_
        refine pu 4 (some 43) (bs 15 29) HT_ ?_
        refine pu 6 (some 45) (bs 15 93) HT_ ?_
        refine pu 7 (some 46) (bs 15 221) HT_ ?_
        refine pu 8 (some 47) (bs 15 477) HT_ ?_
        refine ta 1 (some 40) (bs 15 479) HT_ HW_ hHeld ?_
        refine ta 5 (some 44) (bt 15 9) HT_ HW_ hHeld ?_
        refine ta 9 (some 48) (bt 15 10) HT_ HW_ hHeld ?_
        refine ta 11 (some 50) (bs 15 3071) HT_ HW_ hHeld ?_
        refine ro 10 (some 49) (bt 15 12) HT_ (fun K hK => ?_)
        refine gs Try.func47 #[.agg #[.int .i64 ((rd_T55 l2 x11_1).f0.f0), .int .i64 ((rd_T55 l2 x11_1).f0.f1), .int .i64 ((rd_T55 l2 x11_1).f0.f2), .int .i64 ((rd_T55 l2 x11_1).f0.f3), .int .i64 ((rd_T55 l2 x11_1).f1.f0), .int .i64 ((rd_T55 l2 x11_1).f1.f1)], .agg #[.int .i64 ((rd_T55 l3 x13_2).f0.f0), .int .i64 ((rd_T55 l3 x13_2).f0.f1), .int .i64 ((rd_T55 l3 x13_2).f0.f2), .int .i64 ((rd_T55 l3 x13_2).f0.f3), .int .i64 ((rd_T55 l3 x13_2).f1.f0), .int .i64 ((rd_T55 l3 x13_2).f1.f1)]] ?_
        with_reducible refine (spec_l05Compose.calls _ _ _ _ _ _ _ _ _ _ _ _ _ _ _ _ _ _ _ A21.out).mono ?_
        rintro e w26 ⟨rfl, hb⟩
        refine ⟨_, rfl, ?_⟩
        replace BK708 := bB BK708 hb
        replace BK717 := bB BK717 hb
        replace HB := bS2 HB GE708 GE717 hb
        (try clear hb)
        (try clear hb2)
        (try clear hk)
        (try clear hi)
        refine hK.out _ _ (cb3 BK708 (cb6 BK717 (cx6 HB hw718_0 hw718_1 hw718_2 hw718_3 hw718_4 hw718_5 (ex6 HB hw719_0 hw719_1 hw719_2 hw719_3 hw719_4 hw719_5)))).out (fun hHeld => ?_)
        clear hK K
        refine norm_ (a' := ?_) ?_ ?_
        rotate_left
        ·show Act.put _ (some 49) _ = _
         simp only [Act.put, sA, sB, sC, i64_w, i32_w]
         rfl
        refine ro 12 (some 51) (bt 15 13) HT_ (fun K hK => ?_)
        refine gs Try.func46 #[.agg #[.int .i64 a1_0, .int .i64 a1_1, .int .i64 a1_2], .agg #[.int .i64 t720, .int .i64 t721, .int .i64 t722, .int .i64 t723, .int .i64 t724, .int .i64 t725], .agg #[.int .i64 t711, .int .i64 t712, .int .i64 t713, .int .i64 t714, .int .i64 t715, .int .i64 t716]] ?_
        with_reducible refine (spec_l15Product.calls _ _ _ _ _ _ _ _ _ _ _ _ _ _ _ _ _ _ _ _ _ _ A22.out).mono ?_
        rintro e w27 ⟨rfl, hb⟩
        refine ⟨_, rfl, ?_⟩
        replace BK708 := bB BK708 hb
        replace BK717 := bB BK717 hb
        replace HB := bS2 HB GE708 GE717 hb
        (try clear hb)
        (try clear hb2)
        (try clear hk)
        (try clear hi)
        refine hK.out _ _ (cb3 BK708 (cb6 BK717 (cx6 HB hw718_0 hw718_1 hw718_2 hw718_3 hw718_4 hw718_5 (ex6 HB hw719_0 hw719_1 hw719_2 hw719_3 hw719_4 hw719_5)))).out (fun hHeld => ?_)
        clear hK K
        refine norm_ (a' := ?_) ?_ ?_
        rotate_left
        ·show Act.put _ (some 51) _ = _
         simp only [Act.put, sA, sB, sC, i64_w, i32_w]
         rfl
        refine ro 13 (some 52) (bt 15 14) HT_ (fun K hK => ?_)
        refine gs Try.func45 #[.slice (some ad719) l3.length c3, .agg #[.int .i64 t726, .int .i64 t727, .int .i64 t728, .int .i64 t729, .int .i64 t730, .int .i64 t731]] ?_
        with_reducible refine (spec_l06Has.calls _ _ _ _ _ _ _ _ _ _ _ _ ?side1 ?side2 A23.out).mono ?_
        (case side1 => exact ks (Kd.C_below HR3.out HB.out))
        (case side2 => exact HC3.out)
        rintro e w28 ⟨rfl, hb⟩
        refine ⟨_, rfl, ?_⟩
        replace BK708 := bB BK708 hb
        replace BK717 := bB BK717 hb
        replace HB := bS2 HB GE708 GE717 hb
        (try clear hb)
        (try clear hb2)
        (try clear hk)
        (try clear hi)
        refine hK.out _ _ (cb3 BK708 (cb6 BK717 (cx6 HB hw718_0 hw718_1 hw718_2 hw718_3 hw718_4 hw718_5 (ex6 HB hw719_0 hw719_1 hw719_2 hw719_3 hw719_4 hw719_5)))).out (fun hHeld => ?_)
        clear hK K
        refine norm_ (a' := ?_) ?_ ?_
        rotate_left
        ·show Act.put _ (some 52) _ = _
         simp only [Act.put, sA, sB, sC, i64_w, i32_w]
         rfl
        refine pu 14 (some 53) (bt 15 15) HT_ ?_
        refine done_ (done_of HT_.out (by kernel_rfl)) ?_
        try go_wp2
       ·go_roundg k2
        case measure => have := HK1.out; have := HK2.out; omega
        case rel => exact ⟨(wrap64 (x13_2 + 1)), (by first | rfl | (simp; done) | (simp [*]; done)), H', ⟨by have := HK1.out; have := HK2.out; omega⟩, ⟨bkp BK708⟩, ⟨bkp BK717⟩, ⟨bbw2 HB GE708 GE717⟩⟩
       ·go_ret2
        exact er (bbw2 HB GE708 GE717)
    ·simp only [Option.some.injEq, Prod.mk.injEq] at H
     obtain ⟨rfl, rfl⟩ := H
     go_wp2
     go_ret2
     exact er (bbw1 HB GE708)
 ·go_ret2
  exact er (bbw1 HB GE708)

end Go.Proofs.Ytcchmdodifkloaa.PA
