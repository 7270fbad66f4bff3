/- Walks written by program: each Go function that the law reaches comes to the plain function beside it. -/
import Derived.Test.YtilbokbfcmeleaaPAx0
import Derived.Test.YtilbokbfcmeleaaPAx5
import Derived.Test.YtilbokbfcmeleaaPAx6
import Derived.Test.YtilbokbfcmeleaaPAx7
namespace Go.Proofs.Ytilbokbfcmeleaa.PA
open Go.RowKit Go.Proofs.YtilbokbfcmeleaaW.PrintWords Go.Proofs.YtilbokbfcmeleaaW.PrintLast Go.Proofs.YtilbokbfcmeleaaW.PrintMore
attribute [local go_sem] max2_int min2_int max_two min_two max_three min_three max_four min_four   -- for this text's walks alone
set_option linter.unusedVariables false
set_option linter.unusedSimpArgs false

/-! ### spec_l05Compose: function 46 -/
def spec_l05Compose.f (a0_0 : Int) (a0_1 : Int) (a0_2 : Int) (a0_3 : Int) (a0_4 : Int) (a0_5 : Int) (a1_0 : Int) (a1_1 : Int) (a1_2 : Int) (a1_3 : Int) (a1_4 : Int) (a1_5 : Int) : Option (Int × Int × Int × Int × Int × Int) := (spec_l02Multiply.f a0_0 a0_1 a0_2 a0_3 a1_0 a1_1 a1_2 a1_3).bind fun bt235 => ((spec_l02Apply.f a0_0 a0_1 a0_2 a0_3 a1_4 a1_5).bind fun bt239 => ((spec_l01Add.f bt239.1 bt239.2 a0_4 a0_5).bind fun bt241 => (some (bt235.1, bt235.2.1, bt235.2.2.1, bt235.2.2.2, bt241.1, bt241.2))))
def spec_l05Compose.T1 : Bool × List (List Nat × List Nat) := (true, [([], []), ([0], [0]), ([], []), ([2], [2]), ([1, 3], [1, 3]), ([], []), ([5], [5]), ([], []), ([7], [7]), ([6, 8, 4], [6, 8]), ([], []), ([10], [10]), ([9, 11, 9], [9, 11]), ([4, 12], [4, 12]), ([13, 12, 0, 1, 2, 3, 4, 5, 6, 7, 8, 9, 10, 11, 12, 13], [13])])
def spec_l05Compose.B1 : List Nat := [0, 1, 0, 4, 15, 0, 32, 0, 128, 511, 0, 1024, 4095, 8191, 16383]
theorem spec_l05Compose.tab1 : rtab .any (opsOf Try.f46 1) = spec_l05Compose.T1 := by kernel_rfl
theorem spec_l05Compose.bits1 : waitsOk spec_l05Compose.T1.2 spec_l05Compose.B1 = true := by kernel_rfl
set_option maxHeartbeats 8000000 in
set_option maxRecDepth 100000 in
theorem spec_l05Compose.calls (a0_0 : Int) (a0_1 : Int) (a0_2 : Int) (a0_3 : Int) (a0_4 : Int) (a0_5 : Int) (a1_0 : Int) (a1_1 : Int) (a1_2 : Int) (a1_3 : Int) (a1_4 : Int) (a1_5 : Int) (r1 : Int) (r2 : Int) (r3 : Int) (r4 : Int) (r5 : Int) (r6 : Int) (w : World) (h : spec_l05Compose.f a0_0 a0_1 a0_2 a0_3 a0_4 a0_5 a1_0 a1_1 a1_2 a1_3 a1_4 a1_5 = some (r1, r2, r3, r4, r5, r6)) :
  Calls Try.prog 46 #[.agg #[.int .i64 a0_0, .int .i64 a0_1, .int .i64 a0_2, .int .i64 a0_3, .int .i64 a0_4, .int .i64 a0_5], .agg #[.int .i64 a1_0, .int .i64 a1_1, .int .i64 a1_2, .int .i64 a1_3, .int .i64 a1_4, .int .i64 a1_5]] w fun e w' => e = .returned (.agg #[.int .i64 r1, .int .i64 r2, .int .i64 r3, .int .i64 r4, .int .i64 r5, .int .i64 r6]) ∧ Below w.heap.size w w' := by
 have hu48 := Try.underlying48
 have hu44 := Try.underlying44
 have hu46 := Try.underlying46
 have HB := asd (Below.refl w.heap.size w)
 have H : ((spec_l02Multiply.f a0_0 a0_1 a0_2 a0_3 a1_0 a1_1 a1_2 a1_3).bind fun bt235 => ((spec_l02Apply.f a0_0 a0_1 a0_2 a0_3 a1_4 a1_5).bind fun bt239 => ((spec_l01Add.f bt239.1 bt239.2 a0_4 a0_5).bind fun bt241 => (some (bt235.1, bt235.2.1, bt235.2.2.1, bt235.2.2.2, bt241.1, bt241.2))))) = some (r1, r2, r3, r4, r5, r6) := h
 clear h
 obtain ⟨⟨t235, t236, t237, t238⟩, A3, H⟩ := ob H
 try dsimp only at H
 obtain ⟨⟨t239, t240⟩, A4, H⟩ := ob H
 try dsimp only at H
 obtain ⟨⟨t241, t242⟩, A5, H⟩ := ob H
 try dsimp only at H
 simp only [Option.some.injEq, Prod.mk.injEq] at H
 obtain ⟨rfl, rfl, rfl, rfl, rfl, rfl⟩ := H
 go_enter Try.func46, Try.ntmps46
 try go_wp2_with (first | ((with_reducible refine gd 2 rfl ?_); refine bx #[.int .i64 a0_0, .int .i64 a0_1, .int .i64 a0_2, .int .i64 a0_3, .int .i64 a0_4, .int .i64 a0_5] 48 ?_; intro gb232 hg w6 BK232 hb; have GE232 := ngw0 hg HB; replace HB := bS0 HB hb; clear hb hg) | ((with_reducible refine gd 3 rfl ?_); refine bx #[.int .i64 a1_0, .int .i64 a1_1, .int .i64 a1_2, .int .i64 a1_3, .int .i64 a1_4, .int .i64 a1_5] 48 ?_; intro gb233 hg w7 BK233 hb; have GE233 := ngw1 hg HB GE232; replace HB := bS1 HB GE232 hb; have NB232_233 := nlt hg BK232; have NB233_232 := nsy (nlt hg BK232); replace BK232 := bB BK232 hb; clear hb hg) | ((with_reducible refine gd 4 rfl ?_); refine bx #[.int .i64 0, .int .i64 0, .int .i64 0, .int .i64 0, .int .i64 0, .int .i64 0] 48 ?_; intro gb234 hg w8 BK234 hb; have GE234 := ngw2 hg HB GE232 GE233; replace HB := bS2 HB GE232 GE233 hb; have NB232_234 := nlt hg BK232; have NB234_232 := nsy (nlt hg BK232); replace BK232 := bB BK232 hb; have NB233_234 := nlt hg BK233; have NB234_233 := nsy (nlt hg BK233); replace BK233 := bB BK233 hb; clear hb hg))
 replace BK232 := asd (blk_drew BK232.out)
 replace BK233 := asd (blk_drew BK233.out)
 replace BK234 := asd (blk_drew BK234.out)
 replace HB := asd (below_drew1 HB.out)
 refine sh 15 (cb6 BK232 (eb6 BK233)) (fun hHeld => ?_); refine with_tabW spec_l05Compose.tab1 spec_l05Compose.bits1 (fun HT_ HW_ => ?_)
 generalize w8.drew = w9 at BK232 BK233 BK234 HB hHeld ⊢
 refine pu 0 (some 5) (bt 15 1) HT_ ?_
 refine pu 2 (some 7) (bs 15 5) HT_ ?_
 refine pu 5 (some 10) (bs 15 37) HT_ ?_
 refine pu 7 (some 12) (bs 15 165) HT_ ?_
 refine pu 10 (some 15) (bs 15 1189) HT_ ?_
 refine ta 1 (some 6) (bs 15 1191) HT_ HW_ hHeld ?_
 refine ta 3 (some 8) (bs 15 1199) HT_ HW_ hHeld ?_
 refine ta 6 (some 11) (bs 15 1263) HT_ HW_ hHeld ?_
 refine ta 8 (some 13) (bs 15 1519) HT_ HW_ hHeld ?_
 refine ta 11 (some 16) (bs 15 3567) HT_ HW_ hHeld ?_
 refine ro 4 (some 9) (bs 15 3583) HT_ (fun K hK => ?_)
 refine gs Try.func78 #[.agg #[.int .i64 a0_0, .int .i64 a0_1, .int .i64 a0_2, .int .i64 a0_3], .agg #[.int .i64 a1_0, .int .i64 a1_1, .int .i64 a1_2, .int .i64 a1_3]] ?_
 with_reducible refine (spec_l02Multiply.calls _ _ _ _ _ _ _ _ _ _ _ _ _ A3.out).mono ?_
 rintro e w10 ⟨rfl, hb⟩
 refine ⟨_, rfl, ?_⟩
 replace BK232 := bB BK232 hb
 replace BK233 := bB BK233 hb
 replace BK234 := bB BK234 hb
 replace HB := bS3 HB GE232 GE233 GE234 hb
 (try clear hb)
 (try clear hb2)
 (try clear hk)
 (try clear hi)
 refine hK.out _ _ (cb6 BK232 (eb6 BK233)).out (fun hHeld => ?_)
 clear hK K
 refine norm_ (a' := ?_) ?_ ?_
 rotate_left
 ·show Act.put _ (some 9) _ = _
  simp only [Act.put, sA, sB, sC, i64_w, i32_w]
  rfl
 refine ro 9 (some 14) (bt 15 12) HT_ (fun K hK => ?_)
 refine gs Try.func79 #[.agg #[.int .i64 a0_0, .int .i64 a0_1, .int .i64 a0_2, .int .i64 a0_3], .agg #[.int .i64 a1_4, .int .i64 a1_5]] ?_
 with_reducible refine (spec_l02Apply.calls _ _ _ _ _ _ _ _ _ A4.out).mono ?_
 rintro e w11 ⟨rfl, hb⟩
 refine ⟨_, rfl, ?_⟩
 replace BK232 := bB BK232 hb
 replace BK233 := bB BK233 hb
 replace BK234 := bB BK234 hb
 replace HB := bS3 HB GE232 GE233 GE234 hb
 (try clear hb)
 (try clear hb2)
 (try clear hk)
 (try clear hi)
 refine hK.out _ _ (cb6 BK232 (eb6 BK233)).out (fun hHeld => ?_)
 clear hK K
 refine norm_ (a' := ?_) ?_ ?_
 rotate_left
 ·show Act.put _ (some 14) _ = _
  simp only [Act.put, sA, sB, sC, i64_w, i32_w]
  rfl
 refine ro 12 (some 17) (bt 15 13) HT_ (fun K hK => ?_)
 refine gs Try.func62 #[.agg #[.int .i64 t239, .int .i64 t240], .agg #[.int .i64 a0_4, .int .i64 a0_5]] ?_
 with_reducible refine (spec_l01Add.calls _ _ _ _ _ _ _ A5.out).mono ?_
 rintro e w12 ⟨rfl, hb⟩
 refine ⟨_, rfl, ?_⟩
 replace BK232 := bB BK232 hb
 replace BK233 := bB BK233 hb
 replace BK234 := bB BK234 hb
 replace HB := bS3 HB GE232 GE233 GE234 hb
 (try clear hb)
 (try clear hb2)
 (try clear hk)
 (try clear hi)
 refine hK.out _ _ (cb6 BK232 (eb6 BK233)).out (fun hHeld => ?_)
 clear hK K
 refine norm_ (a' := ?_) ?_ ?_
 rotate_left
 ·show Act.put _ (some 17) _ = _
  simp only [Act.put, sA, sB, sC, i64_w, i32_w]
  rfl
 refine pu 13 (some 18) (bt 15 14) HT_ ?_
 refine ro 14 (none) (bt 15 15) HT_ (fun K hK => ?_)
 have hs13 : w12.cell? ⟨gb234, 0, none⟩ = some (.int .i64 0) := bcl BK234 0
 have hfs13 := blk_frozen BK234.out 0
 have hns13_0 := NB232_234.out
 have hns13_1 := NB233_234.out
 have hms13_0 := NB234_232.out
 have hms13_1 := NB234_233.out
 have hs14 : w12.cell? ⟨gb234, 1, none⟩ = some (.int .i64 0) := bcl BK234 1
 have hfs14 := blk_frozen BK234.out 1
 have hns14_0 := NB232_234.out
 have hns14_1 := NB233_234.out
 have hms14_0 := NB234_232.out
 have hms14_1 := NB234_233.out
 have hs15 : w12.cell? ⟨gb234, 2, none⟩ = some (.int .i64 0) := bcl BK234 2
 have hfs15 := blk_frozen BK234.out 2
 have hns15_0 := NB232_234.out
 have hns15_1 := NB233_234.out
 have hms15_0 := NB234_232.out
 have hms15_1 := NB234_233.out
 have hs16 : w12.cell? ⟨gb234, 3, none⟩ = some (.int .i64 0) := bcl BK234 3
 have hfs16 := blk_frozen BK234.out 3
 have hns16_0 := NB232_234.out
 have hns16_1 := NB233_234.out
 have hms16_0 := NB234_232.out
 have hms16_1 := NB234_233.out
 have hs17 : w12.cell? ⟨gb234, 4, none⟩ = some (.int .i64 0) := bcl BK234 4
 have hfs17 := blk_frozen BK234.out 4
 have hns17_0 := NB232_234.out
 have hns17_1 := NB233_234.out
 have hms17_0 := NB234_232.out
 have hms17_1 := NB234_233.out
 have hs18 : w12.cell? ⟨gb234, 5, none⟩ = some (.int .i64 0) := bcl BK234 5
 have hfs18 := blk_frozen BK234.out 5
 have hns18_0 := NB232_234.out
 have hns18_1 := NB233_234.out
 have hms18_0 := NB234_232.out
 have hms18_1 := NB234_233.out
 refine skip_ (w1 := ?_) (by rfl) rfl ?_ ?_
 rotate_left
 ·go_simp
  rfl
 refine hK.out _ _ ⟨(cf NB232_234 ((cf NB232_234 ((cf NB232_234 ((cf NB232_234 ((cf NB232_234 ((cf NB232_234 (hHeld.1)))))))))))), (cf NB232_234 ((cf NB232_234 ((cf NB232_234 ((cf NB232_234 ((cf NB232_234 ((cf NB232_234 (hHeld.2.1)))))))))))), (cf NB232_234 ((cf NB232_234 ((cf NB232_234 ((cf NB232_234 ((cf NB232_234 ((cf NB232_234 (hHeld.2.2.1)))))))))))), (cf NB232_234 ((cf NB232_234 ((cf NB232_234 ((cf NB232_234 ((cf NB232_234 ((cf NB232_234 (hHeld.2.2.2.1)))))))))))), (cf NB232_234 ((cf NB232_234 ((cf NB232_234 ((cf NB232_234 ((cf NB232_234 ((cf NB232_234 (hHeld.2.2.2.2.1)))))))))))), (cf NB232_234 ((cf NB232_234 ((cf NB232_234 ((cf NB232_234 ((cf NB232_234 ((cf NB232_234 (hHeld.2.2.2.2.2.1)))))))))))), (cf NB233_234 ((cf NB233_234 ((cf NB233_234 ((cf NB233_234 ((cf NB233_234 ((cf NB233_234 (hHeld.2.2.2.2.2.2.1)))))))))))), (cf NB233_234 ((cf NB233_234 ((cf NB233_234 ((cf NB233_234 ((cf NB233_234 ((cf NB233_234 (hHeld.2.2.2.2.2.2.2.1)))))))))))), (cf NB233_234 ((cf NB233_234 ((cf NB233_234 ((cf NB233_234 ((cf NB233_234 ((cf NB233_234 (hHeld.2.2.2.2.2.2.2.2.1)))))))))))), (cf NB233_234 ((cf NB233_234 ((cf NB233_234 ((cf NB233_234 ((cf NB233_234 ((cf NB233_234 (hHeld.2.2.2.2.2.2.2.2.2.1)))))))))))), (cf NB233_234 ((cf NB233_234 ((cf NB233_234 ((cf NB233_234 ((cf NB233_234 ((cf NB233_234 (hHeld.2.2.2.2.2.2.2.2.2.2.1)))))))))))), (cf NB233_234 ((cf NB233_234 ((cf NB233_234 ((cf NB233_234 ((cf NB233_234 ((cf NB233_234 (hHeld.2.2.2.2.2.2.2.2.2.2.2))))))))))))⟩ (fun hHeld => ?_)
 clear hK K
 refine done_ (done_of HT_.out (by kernel_rfl)) ?_
 try go_wp2
 refine bodyPost_ret (results_cell_row rfl _ _ gb234 48 #[.int .i64 t235, .int .i64 t236, .int .i64 t237, .int .i64 t238, .int .i64 t241, .int .i64 t242] (0, 0) _ rfl (bq0 BK234) Try.underlying48 rfl (by kernel_rfl)) rfl ?_
 exact er (bbw3 HB GE232 GE233 GE234)

end Go.Proofs.Ytilbokbfcmeleaa.PA
