/- Walks written by program: each Go function that the law reaches comes to the plain function beside it. -/
import Derived.Test.YtilbokbfcmeleaaPAx0
import Derived.Test.YtilbokbfcmeleaaPAx3
import Derived.Test.YtilbokbfcmeleaaPAx10
namespace Go.Proofs.Ytilbokbfcmeleaa.PA
open Go.RowKit Go.Proofs.YtilbokbfcmeleaaW.PrintWords Go.Proofs.YtilbokbfcmeleaaW.PrintLast Go.Proofs.YtilbokbfcmeleaaW.PrintMore
attribute [local go_sem] max2_int min2_int max_two min_two max_three min_three max_four min_four   -- for this text's walks alone
set_option linter.unusedVariables false
set_option linter.unusedSimpArgs false

/-! ### impl_Motion_times: function 57 -/
def impl_Motion_times.f (a0_0 : Int) (a0_1 : Int) (a0_2 : Int) (a0_3 : Int) (a0_4 : Int) (a0_5 : Int) (a1_0 : Int) (a1_1 : Int) (a1_2 : Int) (a1_3 : Int) (a1_4 : Int) (a1_5 : Int) : Option (Int × Int × Int × Int × Int × Int) := (impl_Mat_times.f a0_0 a0_1 a0_2 a0_3 a1_0 a1_1 a1_2 a1_3).bind fun bt355 => ((impl_Mat_apply.f a0_0 a0_1 a0_2 a0_3 a1_4 a1_5).bind fun bt359 => ((impl_Vec_add.f bt359.1 bt359.2 a0_4 a0_5).bind fun bt361 => (some (bt355.1, bt355.2.1, bt355.2.2.1, bt355.2.2.2, bt361.1, bt361.2))))
def impl_Motion_times.T1 : Bool × List (List Nat × List Nat) := (true, [([], []), ([0], [0]), ([], []), ([2], [2]), ([1, 3], [1, 3]), ([], []), ([5], [5]), ([], []), ([7], [7]), ([6, 8, 4], [6, 8]), ([], []), ([10], [10]), ([9, 11, 9], [9, 11]), ([4, 12], [4, 12]), ([13, 12, 0, 1, 2, 3, 4, 5, 6, 7, 8, 9, 10, 11, 12, 13], [13])])
def impl_Motion_times.B1 : List Nat := [0, 1, 0, 4, 15, 0, 32, 0, 128, 511, 0, 1024, 4095, 8191, 16383]
theorem impl_Motion_times.tab1 : rtab .any (opsOf Try.f57 1) = impl_Motion_times.T1 := by kernel_rfl
theorem impl_Motion_times.bits1 : waitsOk impl_Motion_times.T1.2 impl_Motion_times.B1 = true := by kernel_rfl
set_option maxHeartbeats 8000000 in
set_option maxRecDepth 100000 in
theorem impl_Motion_times.calls (a0_0 : Int) (a0_1 : Int) (a0_2 : Int) (a0_3 : Int) (a0_4 : Int) (a0_5 : Int) (a1_0 : Int) (a1_1 : Int) (a1_2 : Int) (a1_3 : Int) (a1_4 : Int) (a1_5 : Int) (r1 : Int) (r2 : Int) (r3 : Int) (r4 : Int) (r5 : Int) (r6 : Int) (w : World) (h : impl_Motion_times.f a0_0 a0_1 a0_2 a0_3 a0_4 a0_5 a1_0 a1_1 a1_2 a1_3 a1_4 a1_5 = some (r1, r2, r3, r4, r5, r6)) :
  Calls Try.prog 57 #[.agg #[.int .i64 a0_0, .int .i64 a0_1, .int .i64 a0_2, .int .i64 a0_3, .int .i64 a0_4, .int .i64 a0_5], .agg #[.int .i64 a1_0, .int .i64 a1_1, .int .i64 a1_2, .int .i64 a1_3, .int .i64 a1_4, .int .i64 a1_5]] w fun e w' => e = .returned (.agg #[.int .i64 r1, .int .i64 r2, .int .i64 r3, .int .i64 r4, .int .i64 r5, .int .i64 r6]) ∧ Below w.heap.size w w' := by
 have hu48 := Try.underlying48
 have hu44 := Try.underlying44
 have hu46 := Try.underlying46
 have HB := asd (Below.refl w.heap.size w)
 have H : ((impl_Mat_times.f a0_0 a0_1 a0_2 a0_3 a1_0 a1_1 a1_2 a1_3).bind fun bt355 => ((impl_Mat_apply.f a0_0 a0_1 a0_2 a0_3 a1_4 a1_5).bind fun bt359 => ((impl_Vec_add.f bt359.1 bt359.2 a0_4 a0_5).bind fun bt361 => (some (bt355.1, bt355.2.1, bt355.2.2.1, bt355.2.2.2, bt361.1, bt361.2))))) = some (r1, r2, r3, r4, r5, r6) := h
 clear h
 obtain ⟨⟨t355, t356, t357, t358⟩, A3, H⟩ := ob H
 try dsimp only at H
 obtain ⟨⟨t359, t360⟩, A4, H⟩ := ob H
 try dsimp only at H
 obtain ⟨⟨t361, t362⟩, A5, H⟩ := ob H
 try dsimp only at H
 simp only [Option.some.injEq, Prod.mk.injEq] at H
 obtain ⟨rfl, rfl, rfl, rfl, rfl, rfl⟩ := H
 go_enter Try.func57, Try.ntmps57
 try go_wp2_with (first | ((with_reducible refine gd 2 rfl ?_); refine bx #[.int .i64 a0_0, .int .i64 a0_1, .int .i64 a0_2, .int .i64 a0_3, .int .i64 a0_4, .int .i64 a0_5] 48 ?_; intro gb352 hg w6 BK352 hb; have GE352 := ngw0 hg HB; replace HB := bS0 HB hb; clear hb hg) | ((with_reducible refine gd 3 rfl ?_); refine bx #[.int .i64 a1_0, .int .i64 a1_1, .int .i64 a1_2, .int .i64 a1_3, .int .i64 a1_4, .int .i64 a1_5] 48 ?_; intro gb353 hg w7 BK353 hb; have GE353 := ngw1 hg HB GE352; replace HB := bS1 HB GE352 hb; have NB352_353 := nlt hg BK352; have NB353_352 := nsy (nlt hg BK352); replace BK352 := bB BK352 hb; clear hb hg) | ((with_reducible refine gd 4 rfl ?_); refine bx #[.int .i64 0, .int .i64 0, .int .i64 0, .int .i64 0, .int .i64 0, .int .i64 0] 48 ?_; intro gb354 hg w8 BK354 hb; have GE354 := ngw2 hg HB GE352 GE353; replace HB := bS2 HB GE352 GE353 hb; have NB352_354 := nlt hg BK352; have NB354_352 := nsy (nlt hg BK352); replace BK352 := bB BK352 hb; have NB353_354 := nlt hg BK353; have NB354_353 := nsy (nlt hg BK353); replace BK353 := bB BK353 hb; clear hb hg))
 replace BK352 := asd (blk_drew BK352.out)
 replace BK353 := asd (blk_drew BK353.out)
 replace BK354 := asd (blk_drew BK354.out)
 replace HB := asd (below_drew1 HB.out)
 refine sh 15 (cb6 BK352 (eb6 BK353)) (fun hHeld => ?_); refine with_tabW impl_Motion_times.tab1 impl_Motion_times.bits1 (fun HT_ HW_ => ?_)
 generalize w8.drew = w9 at BK352 BK353 BK354 HB hHeld ⊢
 refine pu 0 (some 5) (bt 15 1) HT_ ?_
 refine pu 2 (some 7) (bs 15 5) HT_ ?_
 refine pu 5 (some 10) (bs 15 37) HT_ ?_
 refine pu 7 (some 12) (bs 15 165) HT_ ?_
 refine pu 10 (some 15) (bs 15 1189) HT_ ?_
 refine ta 1 (some 6) (bs 15 1191) HT_ HW_ hHeld ?_
 refine ta 3 (some 8) (bs 15 1199) HT_ HW_ hHeld ?_
 refine ta 6 (some 11) (bs 15 1263) HT_ HW_ hHeld ?_
 refine ta 8 (some 13) (bs 15 1519) HT_ HW_ hHeld ?_
 refine ta 11 (some 16) (bs 15 3567) HT_ HW_ hHeld ?_
 refine ro 4 (some 9) (bs 15 3583) HT_ (fun K hK => ?_)
 refine gs Try.func86 #[.agg #[.int .i64 a0_0, .int .i64 a0_1, .int .i64 a0_2, .int .i64 a0_3], .agg #[.int .i64 a1_0, .int .i64 a1_1, .int .i64 a1_2, .int .i64 a1_3]] ?_
 with_reducible refine (impl_Mat_times.calls _ _ _ _ _ _ _ _ _ _ _ _ _ A3.out).mono ?_
 rintro e w10 ⟨rfl, hb⟩
 refine ⟨_, rfl, ?_⟩
 replace BK352 := bB BK352 hb
 replace BK353 := bB BK353 hb
 replace BK354 := bB BK354 hb
 replace HB := bS3 HB GE352 GE353 GE354 hb
 (try clear hb)
 (try clear hb2)
 (try clear hk)
 (try clear hi)
 refine hK.out _ _ (cb6 BK352 (eb6 BK353)).out (fun hHeld => ?_)
 clear hK K
 refine norm_ (a' := ?_) ?_ ?_
 rotate_left
 ·show Act.put _ (some 9) _ = _
  simp only [Act.put, sA, sB, sC, i64_w, i32_w]
  rfl
 refine ro 9 (some 14) (bt 15 12) HT_ (fun K hK => ?_)
 refine gs Try.func87 #[.agg #[.int .i64 a0_0, .int .i64 a0_1, .int .i64 a0_2, .int .i64 a0_3], .agg #[.int .i64 a1_4, .int .i64 a1_5]] ?_
 with_reducible refine (impl_Mat_apply.calls _ _ _ _ _ _ _ _ _ A4.out).mono ?_
 rintro e w11 ⟨rfl, hb⟩
 refine ⟨_, rfl, ?_⟩
 replace BK352 := bB BK352 hb
 replace BK353 := bB BK353 hb
 replace BK354 := bB BK354 hb
 replace HB := bS3 HB GE352 GE353 GE354 hb
 (try clear hb)
 (try clear hb2)
 (try clear hk)
 (try clear hi)
 refine hK.out _ _ (cb6 BK352 (eb6 BK353)).out (fun hHeld => ?_)
 clear hK K
 refine norm_ (a' := ?_) ?_ ?_
 rotate_left
 ·show Act.put _ (some 14) _ = _
  simp only [Act.put, sA, sB, sC, i64_w, i32_w]
  rfl
 refine ro 12 (some 17) (bt 15 13) HT_ (fun K hK => ?_)
 refine gs Try.func37 #[.agg #[.int .i64 t359, .int .i64 t360], .agg #[.int .i64 a0_4, .int .i64 a0_5]] ?_
 with_reducible refine (impl_Vec_add.calls _ _ _ _ _ _ _ A5.out).mono ?_
 rintro e w12 ⟨rfl, hb⟩
 refine ⟨_, rfl, ?_⟩
 replace BK352 := bB BK352 hb
 replace BK353 := bB BK353 hb
 replace BK354 := bB BK354 hb
 replace HB := bS3 HB GE352 GE353 GE354 hb
 (try clear hb)
 (try clear hb2)
 (try clear hk)
 (try clear hi)
 refine hK.out _ _ (cb6 BK352 (eb6 BK353)).out (fun hHeld => ?_)
 clear hK K
 refine norm_ (a' := ?_) ?_ ?_
 rotate_left
 ·show Act.put _ (some 17) _ = _
  simp only [Act.put, sA, sB, sC, i64_w, i32_w]
  rfl
 refine pu 13 (some 18) (bt 15 14) HT_ ?_
 refine ro 14 (none) (bt 15 15) HT_ (fun K hK => ?_)
 have hs13 : w12.cell? ⟨gb354, 0, none⟩ = some (.int .i64 0) := bcl BK354 0
 have hfs13 := blk_frozen BK354.out 0
 have hns13_0 := NB352_354.out
 have hns13_1 := NB353_354.out
 have hms13_0 := NB354_352.out
 have hms13_1 := NB354_353.out
 have hs14 : w12.cell? ⟨gb354, 1, none⟩ = some (.int .i64 0) := bcl BK354 1
 have hfs14 := blk_frozen BK354.out 1
 have hns14_0 := NB352_354.out
 have hns14_1 := NB353_354.out
 have hms14_0 := NB354_352.out
 have hms14_1 := NB354_353.out
 have hs15 : w12.cell? ⟨gb354, 2, none⟩ = some (.int .i64 0) := bcl BK354 2
 have hfs15 := blk_frozen BK354.out 2
 have hns15_0 := NB352_354.out
 have hns15_1 := NB353_354.out
 have hms15_0 := NB354_352.out
 have hms15_1 := NB354_353.out
 have hs16 : w12.cell? ⟨gb354, 3, none⟩ = some (.int .i64 0) := bcl BK354 3
 have hfs16 := blk_frozen BK354.out 3
 have hns16_0 := NB352_354.out
 have hns16_1 := NB353_354.out
 have hms16_0 := NB354_352.out
 have hms16_1 := NB354_353.out
 have hs17 : w12.cell? ⟨gb354, 4, none⟩ = some (.int .i64 0) := bcl BK354 4
 have hfs17 := blk_frozen BK354.out 4
 have hns17_0 := NB352_354.out
 have hns17_1 := NB353_354.out
 have hms17_0 := NB354_352.out
 have hms17_1 := NB354_353.out
 have hs18 : w12.cell? ⟨gb354, 5, none⟩ = some (.int .i64 0) := bcl BK354 5
 have hfs18 := blk_frozen BK354.out 5
 have hns18_0 := NB352_354.out
 have hns18_1 := NB353_354.out
 have hms18_0 := NB354_352.out
 have hms18_1 := NB354_353.out
 refine skip_ (w1 := ?_) (by rfl) rfl ?_ ?_
 rotate_left
 ·go_simp
  rfl
 refine hK.out _ _ ⟨(cf NB352_354 ((cf NB352_354 ((cf NB352_354 ((cf NB352_354 ((cf NB352_354 ((cf NB352_354 (hHeld.1)))))))))))), (cf NB352_354 ((cf NB352_354 ((cf NB352_354 ((cf NB352_354 ((cf NB352_354 ((cf NB352_354 (hHeld.2.1)))))))))))), (cf NB352_354 ((cf NB352_354 ((cf NB352_354 ((cf NB352_354 ((cf NB352_354 ((cf NB352_354 (hHeld.2.2.1)))))))))))), (cf NB352_354 ((cf NB352_354 ((cf NB352_354 ((cf NB352_354 ((cf NB352_354 ((cf NB352_354 (hHeld.2.2.2.1)))))))))))), (cf NB352_354 ((cf NB352_354 ((cf NB352_354 ((cf NB352_354 ((cf NB352_354 ((cf NB352_354 (hHeld.2.2.2.2.1)))))))))))), (cf NB352_354 ((cf NB352_354 ((cf NB352_354 ((cf NB352_354 ((cf NB352_354 ((cf NB352_354 (hHeld.2.2.2.2.2.1)))))))))))), (cf NB353_354 ((cf NB353_354 ((cf NB353_354 ((cf NB353_354 ((cf NB353_354 ((cf NB353_354 (hHeld.2.2.2.2.2.2.1)))))))))))), (cf NB353_354 ((cf NB353_354 ((cf NB353_354 ((cf NB353_354 ((cf NB353_354 ((cf NB353_354 (hHeld.2.2.2.2.2.2.2.1)))))))))))), (cf NB353_354 ((cf NB353_354 ((cf NB353_354 ((cf NB353_354 ((cf NB353_354 ((cf NB353_354 (hHeld.2.2.2.2.2.2.2.2.1)))))))))))), (cf NB353_354 ((cf NB353_354 ((cf NB353_354 ((cf NB353_354 ((cf NB353_354 ((cf NB353_354 (hHeld.2.2.2.2.2.2.2.2.2.1)))))))))))), (cf NB353_354 ((cf NB353_354 ((cf NB353_354 ((cf NB353_354 ((cf NB353_354 ((cf NB353_354 (hHeld.2.2.2.2.2.2.2.2.2.2.1)))))))))))), (cf NB353_354 ((cf NB353_354 ((cf NB353_354 ((cf NB353_354 ((cf NB353_354 ((cf NB353_354 (hHeld.2.2.2.2.2.2.2.2.2.2.2))))))))))))⟩ (fun hHeld => ?_)
 clear hK K
 refine done_ (done_of HT_.out (by kernel_rfl)) ?_
 try go_wp2
 refine bodyPost_ret (results_cell_row rfl _ _ gb354 48 #[.int .i64 t355, .int .i64 t356, .int .i64 t357, .int .i64 t358, .int .i64 t361, .int .i64 t362] (0, 0) _ rfl (bq0 BK354) Try.underlying48 rfl (by kernel_rfl)) rfl ?_
 exact er (bbw3 HB GE352 GE353 GE354)
/-! ### impl_unit: function 66 -/
def impl_unit.f  : Option (Int × Int × Int × Int) := some (1, 0, 0, 1)
set_option maxHeartbeats 8000000 in
set_option maxRecDepth 100000 in
theorem impl_unit.calls  (r1 : Int) (r2 : Int) (r3 : Int) (r4 : Int) (w : World) (h : impl_unit.f  = some (r1, r2, r3, r4)) :
  Calls Try.prog 66 #[] w fun e w' => e = .returned (.agg #[.int .i64 r1, .int .i64 r2, .int .i64 r3, .int .i64 r4]) ∧ Below w.heap.size w w' := by
 have hu44 := Try.underlying44
 have HB := asd (Below.refl w.heap.size w)
 have H : (some (1, 0, 0, 1)) = some (r1, r2, r3, r4) := h
 clear h
 simp only [Option.some.injEq, Prod.mk.injEq] at H
 obtain ⟨rfl, rfl, rfl, rfl⟩ := H
 go_enter Try.func66, Try.ntmps66
 go_wp2_with (first | ((with_reducible refine gd 0 rfl ?_); refine bx #[.int .i64 0, .int .i64 0, .int .i64 0, .int .i64 0] 44 ?_; intro gb363 hg w1 BK363 hb; have GE363 := ngw0 hg HB; replace HB := bS0 HB hb; clear hb hg; obtain ⟨hcz2_0, hcz2_1, hcz2_2, hcz2_3, hfz2_0, hfz2_1, hfz2_2, hfz2_3⟩ := bz4 BK363))
 refine bodyPost_ret (results_cell_row rfl _ _ gb363 44 #[.int .i64 1, .int .i64 0, .int .i64 0, .int .i64 1] (0, 0) _ rfl (bq0 BK363) Try.underlying44 rfl (by kernel_rfl)) rfl ?_
 exact er (bbw1 HB GE363)
/-! ### impl_Lattice_basis: function 34 -/
def impl_Lattice_basis.f (a0_0 : Int) (a0_1 : Int) (a0_2 : Int) : Option (Int × Int × Int × Int) := some (a0_0, 0, a0_1, a0_2)
def impl_Lattice_basis.T1 : Bool × List (List Nat × List Nat) := (true, [([], []), ([0], [0]), ([1], [1]), ([], []), ([3], [3]), ([], []), ([5], [5]), ([4, 6], [4, 6]), ([2, 0, 1, 2], [2]), ([7, 8, 0, 1, 2, 3, 4, 5, 6, 7, 8], [7])])
def impl_Lattice_basis.B1 : List Nat := [0, 1, 3, 0, 8, 0, 32, 120, 7, 511]
theorem impl_Lattice_basis.tab1 : rtab .any (opsOf Try.f34 1) = impl_Lattice_basis.T1 := by kernel_rfl
theorem impl_Lattice_basis.bits1 : waitsOk impl_Lattice_basis.T1.2 impl_Lattice_basis.B1 = true := by kernel_rfl
set_option maxHeartbeats 8000000 in
set_option maxRecDepth 100000 in
theorem impl_Lattice_basis.calls (a0_0 : Int) (a0_1 : Int) (a0_2 : Int) (r1 : Int) (r2 : Int) (r3 : Int) (r4 : Int) (w : World) (h : impl_Lattice_basis.f a0_0 a0_1 a0_2 = some (r1, r2, r3, r4)) :
  Calls Try.prog 34 #[.agg #[.int .i64 a0_0, .int .i64 a0_1, .int .i64 a0_2]] w fun e w' => e = .returned (.tuple #[.agg #[.int .i64 r1, .int .i64 r2], .agg #[.int .i64 r3, .int .i64 r4]]) ∧ Below w.heap.size w w' := by
 have hu29 := Try.underlying29
 have hu46 := Try.underlying46
 have HB := asd (Below.refl w.heap.size w)
 have H : (some (a0_0, 0, a0_1, a0_2)) = some (r1, r2, r3, r4) := h
 clear h
 simp only [Option.some.injEq, Prod.mk.injEq] at H
 obtain ⟨rfl, rfl, rfl, rfl⟩ := H
 go_enter Try.func34, Try.ntmps34
 try go_wp2_with (first | ((with_reducible refine gd 1 rfl ?_); refine bx #[.int .i64 a0_0, .int .i64 a0_1, .int .i64 a0_2] 29 ?_; intro gb364 hg w2 BK364 hb; have GE364 := ngw0 hg HB; replace HB := bS0 HB hb; clear hb hg) | ((with_reducible refine gd 2 rfl ?_); refine bx #[.int .i64 0, .int .i64 0] 46 ?_; intro gb365 hg w3 BK365 hb; have GE365 := ngw1 hg HB GE364; replace HB := bS1 HB GE364 hb; have NB364_365 := nlt hg BK364; have NB365_364 := nsy (nlt hg BK364); replace BK364 := bB BK364 hb; clear hb hg) | ((with_reducible refine gd 3 rfl ?_); refine bx #[.int .i64 0, .int .i64 0] 46 ?_; intro gb366 hg w4 BK366 hb; have GE366 := ngw2 hg HB GE364 GE365; replace HB := bS2 HB GE364 GE365 hb; have NB364_366 := nlt hg BK364; have NB366_364 := nsy (nlt hg BK364); replace BK364 := bB BK364 hb; have NB365_366 := nlt hg BK365; have NB366_365 := nsy (nlt hg BK365); replace BK365 := bB BK365 hb; clear hb hg))
 replace BK364 := asd (blk_drew BK364.out)
 replace BK365 := asd (blk_drew BK365.out)
 replace BK366 := asd (blk_drew BK366.out)
 replace HB := asd (below_drew1 HB.out)
 refine sh 10 (eb3 BK364) (fun hHeld => ?_); refine with_tabW impl_Lattice_basis.tab1 impl_Lattice_basis.bits1 (fun HT_ HW_ => ?_)
 generalize w4.drew = w5 at BK364 BK365 BK366 HB hHeld ⊢
 refine pu 0 (some 4) (bt 10 1) HT_ ?_
 refine pu 3 (some 7) (bs 10 9) HT_ ?_
 refine pu 5 (some 9) (bs 10 41) HT_ ?_
 refine ta 1 (some 5) (bs 10 43) HT_ HW_ hHeld ?_
 refine pu 2 (some 6) (bs 10 47) HT_ ?_
 refine ta 4 (some 8) (bt 10 6) HT_ HW_ hHeld ?_
 refine ta 6 (some 10) (bt 10 7) HT_ HW_ hHeld ?_
 refine pu 7 (some 11) (bt 10 8) HT_ ?_
 refine ro 8 (none) (bt 10 9) HT_ (fun K hK => ?_)
 have hs6 : w5.cell? ⟨gb365, 0, none⟩ = some (.int .i64 0) := bcl BK365 0
 have hfs6 := blk_frozen BK365.out 0
 have hns6_0 := NB364_365.out
 have hns6_2 := NB366_365.out
 have hms6_0 := NB365_364.out
 have hms6_2 := NB365_366.out
 have hs7 : w5.cell? ⟨gb365, 1, none⟩ = some (.int .i64 0) := bcl BK365 1
 have hfs7 := blk_frozen BK365.out 1
 have hns7_0 := NB364_365.out
 have hns7_2 := NB366_365.out
 have hms7_0 := NB365_364.out
 have hms7_2 := NB365_366.out
 refine skip_ (w1 := ?_) (by rfl) rfl ?_ ?_
 rotate_left
 ·go_simp
  rfl
 refine hK.out _ _ ⟨(cf NB364_365 ((cf NB364_365 (hHeld.1)))), (cf NB364_365 ((cf NB364_365 (hHeld.2.1)))), (cf NB364_365 ((cf NB364_365 (hHeld.2.2))))⟩ (fun hHeld => ?_)
 clear hK K
 refine ro 9 (none) (bt 10 10) HT_ (fun K hK => ?_)
 have hs8 : w5.cell? ⟨gb366, 0, none⟩ = some (.int .i64 0) := bcl BK366 0
 have hfs8 := blk_frozen BK366.out 0
 have hns8_0 := NB364_366.out
 have hns8_1 := NB365_366.out
 have hms8_0 := NB366_364.out
 have hms8_1 := NB366_365.out
 have hs9 : w5.cell? ⟨gb366, 1, none⟩ = some (.int .i64 0) := bcl BK366 1
 have hfs9 := blk_frozen BK366.out 1
 have hns9_0 := NB364_366.out
 have hns9_1 := NB365_366.out
 have hms9_0 := NB366_364.out
 have hms9_1 := NB366_365.out
 refine skip_ (w1 := ?_) (by rfl) rfl ?_ ?_
 rotate_left
 ·go_simp
  rfl
 refine hK.out _ _ ⟨(cf NB364_366 ((cf NB364_366 (hHeld.1)))), (cf NB364_366 ((cf NB364_366 (hHeld.2.1)))), (cf NB364_366 ((cf NB364_366 (hHeld.2.2))))⟩ (fun hHeld => ?_)
 clear hK K
 refine done_ (done_of HT_.out (by kernel_rfl)) ?_
 try go_wp2
 refine bodyPost_ret (results_cc rfl _ _ gb365 gb366 46 46 #[.int .i64 a0_0, .int .i64 0] #[.int .i64 a0_1, .int .i64 a0_2] (0, 0) (0, 0) _ _ rfl (bq1 BK365 NB365_366) Try.underlying46 rfl (by kernel_rfl) rfl (bq1 BK366 NB366_365) Try.underlying46 rfl (by kernel_rfl)) rfl ?_
 exact er (bbw3 HB GE364 GE365 GE366)
/-! ### impl_Mat_108: function 108 -/
/-- The first index at which p holds, or -1. -/
def impl_Mat_108.f (p : S44 → Bool) (l : List S44) : Int := match l.findIdx? p with | some i => i | none => -1
theorem impl_Mat_108.rd_get (l : List S44) (j : Nat) (h : j < l.length) : rd_T44 l (j : Int) = l[j] := by
 unfold rd_T44; rw [Int.toNat_natCast]; simp [List.getD, h]
theorem impl_Mat_108.hit (p : S44 → Bool) (l : List S44) (x : Int) (h0 : 0 ≤ x) (hx : x < l.length) (h : p (rd_T44 l x) = true) (hb : ∀ j : Nat, (j : Int) < x → p (rd_T44 l (j : Int)) = false) : impl_Mat_108.f p l = x := by
 obtain ⟨k, rfl⟩ := Int.eq_ofNat_of_zero_le h0
 have hk : k < l.length := by omega
 rw [impl_Mat_108.rd_get l k hk] at h
 unfold impl_Mat_108.f
 have : l.findIdx? p = some k := by
  rw [List.findIdx?_eq_some_iff_getElem]
  refine ⟨hk, h, fun j hj => ?_⟩
  have := hb j (by omega)
  rw [impl_Mat_108.rd_get l j (by omega)] at this
  simpa using this
 rw [this]
theorem impl_Mat_108.miss (p : S44 → Bool) (l : List S44) (hb : ∀ j : Nat, (j : Int) < l.length → p (rd_T44 l (j : Int)) = false) : impl_Mat_108.f p l = -1 := by
 unfold impl_Mat_108.f
 have : l.findIdx? p = none := by
  rw [List.findIdx?_eq_none_iff]
  intro x hx
  obtain ⟨j, hj, rfl⟩ := List.getElem_of_mem hx
  have := hb j (by omega)
  rw [impl_Mat_108.rd_get l j hj] at this
  exact this
 rw [this]
set_option maxHeartbeats 2000000 in
theorem impl_Mat_108.calls_some (p : S44 → Bool) (g : Nat) (lb : Array Value) (eg : ∀ args w, (callFunc g args).run Try.prog w = .ok (.enter g args) w) (ad : Addr) (c : Nat) (l : List S44) (w : World) (hr : Kd.C k44 w (some ad) l.length l)
  (hp : ∀ (x : S44) (W : World), Below w.heap.size w W → Calls Try.prog g (#[.agg #[.int .i64 x.f0, .int .i64 x.f1, .int .i64 x.f2, .int .i64 x.f3]] ++ lb) W fun e w' => e = .returned (.bool (p x)) ∧ Below w.heap.size w w') :
  Calls Try.prog 108 #[.slice (some ad) l.length c, .func (.func g) #[] lb] w fun e w' => e = .returned (.int .i64 (impl_Mat_108.f p l)) ∧ Below w.heap.size w w' := by
 have hu33 := Try.underlying44
 have hbig := Kd.C_max hr
 have HR := Aside0.mk hr
 have HP := Aside0.mk hp
 clear hr hp
 have hbig' : l.length ≤ 9223372036854775807 := hbig
 have HBIG := Aside0.mk hbig'
 clear hbig hbig'
 go_enter Try.func108, Try.ntmps108
 go_wp2
 go_loopg [5, 8] l.length (fun gg _ s8 wr => ∃ x : Int, s8 = .int .i64 x ∧ Aside0 (0 ≤ x ∧ x ≤ l.length ∧ (l.length : Int) - x ≤ gg) ∧ Aside0 (Below w.heap.size w wr) ∧ Aside0 (∀ j : Nat, (j : Int) < x → p (rd_T44 l (j : Int)) = false))
 case atStart => exact ⟨0, rfl, ⟨by omega⟩, ⟨Below.refl _ w⟩, ⟨fun j hj => absurd hj (by omega)⟩⟩
 case round =>
  obtain ⟨x, rfl, HX, BW, AA⟩ := hrel
  by_cases c4 : x < (l.length : Int)
  ·have c4b0 : decide (x < (l.length : Int)) = true := decide_eq_true c4
   have c5b0 : decide (0 ≤ x) = true := decide_eq_true HX.out.1
   have hcall := HP.out (rd_T44 l x) wr BW.out
   obtain ⟨ad', e', hx0, hx1, hx2, hx3⟩ := at_T44 HR.out x HX.out.1 c4
   cases e'
   replace hx0 := (BW.out.cell (World.block_lt_of_cell? w _ hx0)).trans hx0
   replace hx1 := (BW.out.cell (World.block_lt_of_cell? w _ hx1)).trans hx1
   replace hx2 := (BW.out.cell (World.block_lt_of_cell? w _ hx2)).trans hx2
   replace hx3 := (BW.out.cell (World.block_lt_of_cell? w _ hx3)).trans hx3
   have C4 := Aside0.mk c4
   clear c4
   generalize hy : rd_T44 l x = y at hcall hx0 hx1 hx2 hx3
   have HY := Aside0.mk hy
   clear hy
   have p5 : 0 ≤ x := HX.out.1
   have p215 := eq_true p5
   have q215 : (x < (l.length : Int)) = True := eq_true C4.out
   clear p5
   cases hq : p y with
   | true =>
    rw [hq] at hcall
    have HQ := Aside0.mk hq
    clear hq
    go_wp2_with (go_at_fn g; refine hcall.mono ?_; rintro e w' ⟨rfl, hb'⟩)
    go_ret
    refine ⟨?_, hb'⟩
    rw [impl_Mat_108.hit p l x HX.out.1 C4.out (by rw [HY.out]; exact HQ.out) AA.out]
    rfl
   | false =>
    rw [hq] at hcall
    have HQ := Aside0.mk hq
    clear hq
    go_wp2_with (go_at_fn g; refine hcall.mono ?_; rintro e w' ⟨rfl, hb'⟩)
    have hw : wrap64 (x + 1) = x + 1 := by
     have h1 := HX.out; have h2 := HBIG.out; have h3 := C4.out
     unfold wrap64; omega
    go_roundg ((l.length : Int) - (x + 1)).toNat
    case measure => have h1 := HX.out; have h3 := C4.out; omega
    case rel =>
     refine ⟨wrap64 (x + 1), rfl, ⟨?_⟩, ⟨hb'⟩, ⟨fun j hj => ?_⟩⟩
     ·have h1 := HX.out; have h3 := C4.out; rw [hw]; omega
     ·rw [hw] at hj
      by_cases e : (j : Int) = x
      ·rw [e, HY.out]; exact HQ.out
      ·exact AA.out j (by omega)
  ·have c4b0 : decide (x < (l.length : Int)) = false := decide_eq_false c4
   have hxe : x = l.length := by have := HX.out; omega
   have C4 := Aside0.mk hxe
   clear c4 hxe
   go_wp2
   go_ret
   refine ⟨?_, BW.out⟩
   rw [impl_Mat_108.miss p l (by rw [← C4.out]; exact AA.out)]
   rfl
set_option maxHeartbeats 2000000 in
theorem impl_Mat_108.calls_empty (p : S44 → Bool) (A : Option Addr) (c : Nat) (fv : Value) (w : World) :
  Calls Try.prog 108 #[.slice A 0 c, fv] w fun e w' => e = .returned (.int .i64 (impl_Mat_108.f p [])) ∧ Below w.heap.size w w' := by
 go_enter Try.func108, Try.ntmps108
 go_wp2
 go_loopg [5, 8] 0 (fun _ _ s8 wr => s8 = .int .i64 0 ∧ wr = w)
 case atStart => exact ⟨rfl, rfl⟩
 case round =>
  obtain ⟨rfl, rfl⟩ := hrel
  go_wp2
  go_ret
  exact ⟨rfl, Below.refl _ _⟩
theorem impl_Mat_108.calls (p : S44 → Bool) (g : Nat) (lb : Array Value) (eg : ∀ args w, (callFunc g args).run Try.prog w = .ok (.enter g args) w) (A : Option Addr) (c : Nat) (l : List S44) (w : World) (hr : Kd.C k44 w A l.length l)
  (hp : ∀ (x : S44) (W : World), Below w.heap.size w W → Calls Try.prog g (#[.agg #[.int .i64 x.f0, .int .i64 x.f1, .int .i64 x.f2, .int .i64 x.f3]] ++ lb) W fun e w' => e = .returned (.bool (p x)) ∧ Below w.heap.size w w') :
  Calls Try.prog 108 #[.slice A l.length c, .func (.func g) #[] lb] w fun e w' => e = .returned (.int .i64 (impl_Mat_108.f p l)) ∧ Below w.heap.size w w' := by
 cases l with
 | nil => exact impl_Mat_108.calls_empty p A c _ w
 | cons x xs =>
  obtain ⟨ad, rfl, _⟩ := hr.2.2 (by simp)
  exact impl_Mat_108.calls_some p g lb eg ad c (x :: xs) w hr hp
/-! ### impl_Mat_99: function 99 -/
/-- What the loop holds. -/
def impl_Mat_99.Inv (p : S44 → Bool) (l : List S44) (i j : Int) (m : List S44) : Prop :=
 m.length = l.length ∧ m.take i.toNat = (l.take j.toNat).filter (fun x => !p x) ∧ ∀ t : Nat, j ≤ t → rd_T44 m (t : Int) = rd_T44 l (t : Int)
theorem impl_Mat_99.rd_get (l : List S44) (j : Nat) (h : j < l.length) : rd_T44 l (j : Int) = l[j] := by
 unfold rd_T44; rw [Int.toNat_natCast]; simp [List.getD, h]
theorem impl_Mat_99.inv_start (p : S44 → Bool) (l : List S44) (k : Nat) (hk : k < l.length) (h : p l[k] = true) (hb : ∀ (j : Nat) (hj : j < k), p (l[j]'(Nat.lt_trans hj hk)) = false) : impl_Mat_99.Inv p l (k : Int) ((k : Int) + 1) l := by
 refine ⟨rfl, ?_, fun t _ => rfl⟩
 have e : ((k : Int) + 1).toNat = k + 1 := by omega
 rw [Int.toNat_natCast, e, List.take_succ_eq_append_getElem hk, List.filter_append]
 have e2 : (l.take k).filter (fun x => !p x) = l.take k := by
  rw [List.filter_eq_self]
  intro x hx
  obtain ⟨j, hj, rfl⟩ := List.getElem_of_mem hx
  have hj' : j < k := by rw [List.length_take] at hj; omega
  rw [List.getElem_take, hb j hj']; rfl
 rw [e2]; simp [h]
theorem impl_Mat_99.inv_keep (p : S44 → Bool) (l m : List S44) (i j : Int) (h0 : 0 ≤ i) (hij : i < j) (hj : j < l.length) (h : impl_Mat_99.Inv p l i j m) (hp : p (rd_T44 m j) = false) : impl_Mat_99.Inv p l (i + 1) (j + 1) (m.set i.toNat (rd_T44 m j)) := by
 obtain ⟨h1, h2, h3⟩ := h
 obtain ⟨i, rfl⟩ := Int.eq_ofNat_of_zero_le h0
 obtain ⟨j, rfl⟩ := Int.eq_ofNat_of_zero_le (show 0 ≤ j by omega)
 have hjl : j < l.length := by omega
 have him : i < m.length := by omega
 have e1 : ((i : Int) + 1).toNat = i + 1 := by omega
 have e2 : ((j : Int) + 1).toNat = j + 1 := by omega
 have e3 := h3 j (by omega)
 rw [Int.toNat_natCast] at h2 ⊢
 rw [Int.toNat_natCast] at h2
 refine ⟨by simpa using h1, ?_, fun t ht => ?_⟩
 ·rw [e1, e2, List.take_succ_eq_append_getElem hjl, List.filter_append, ← h2, List.take_succ_eq_append_getElem (by simpa using him)]
  rw [e3, impl_Mat_99.rd_get l j hjl] at hp ⊢
  congr 1
  ·rw [List.take_set_of_le (by omega)]
  ·simp [hp]
 ·have := h3 t (by omega)
  unfold rd_T44 at this ⊢
  rw [Int.toNat_natCast] at this ⊢
  simp only [List.getD] at this ⊢
  rw [List.getElem?_set_ne (by omega)]
  exact this
theorem impl_Mat_99.inv_skip (p : S44 → Bool) (l m : List S44) (i j : Int) (h0 : 0 ≤ i) (hij : i < j) (hj : j < l.length) (h : impl_Mat_99.Inv p l i j m) (hp : p (rd_T44 m j) = true) : impl_Mat_99.Inv p l i (j + 1) m := by
 obtain ⟨h1, h2, h3⟩ := h
 obtain ⟨j, rfl⟩ := Int.eq_ofNat_of_zero_le (show 0 ≤ j by omega)
 have hjl : j < l.length := by omega
 have e2 : ((j : Int) + 1).toNat = j + 1 := by omega
 have e3 := h3 j (by omega)
 rw [Int.toNat_natCast] at h2
 refine ⟨h1, ?_, fun t ht => h3 t (by omega)⟩
 rw [e2, List.take_succ_eq_append_getElem hjl, List.filter_append, ← h2]
 rw [e3, impl_Mat_99.rd_get l j hjl] at hp
 simp [hp]
theorem impl_Mat_99.set_cells_append (b : Nat) : ∀ (xs ys : List Value) (o : Nat) (w : World), w.setCells b o (xs ++ ys) = (w.setCells b o xs).setCells b (o + xs.length) ys
 | [], _, _, _ => rfl
 | x :: xs, ys, o, w => by
  have := impl_Mat_99.set_cells_append b xs ys (o + 1) (w.setCell ⟨b, o, none⟩ x)
  rw [List.cons_append, World.setCells, World.setCells, this, List.length_cons]; congr 1; omega
theorem impl_Mat_99.zeros (n : Nat) : (Builtin.zeroCells #[.int .i64 0, .int .i64 0, .int .i64 0, .int .i64 0] n).toList = List.replicate (n * 4) (Value.int .i64 0) := by
 apply List.ext_getElem
 ·simp [Builtin.zeroCells]
 ·intro i h1 h2
  simp only [Builtin.zeroCells, Array.toList_map, Array.toList_range, List.getElem_map, List.getElem_range, List.getElem_replicate]
  have : i % 4 < 4 := Nat.mod_lt _ (by decide)
  have h4 : i % 4 = 0 ∨ i % 4 = 1 ∨ i % 4 = 2 ∨ i % 4 = 3 := by omega
  show (#[Value.int .i64 0, .int .i64 0, .int .i64 0, .int .i64 0] : Array Value)[i % 4]! = _
  rcases h4 with h | h | h | h <;> rw [h] <;> rfl
/-- The end of a row, made zero. -/
theorem impl_Mat_99.clear_row {g n cap base : Nat} {ok : Nat → Prop} (d : Nat) : ∀ (W : World) (i : Nat) (xs : List S44), Kd.R k44 44 W base ok (.slice (some ⟨g, 0, none⟩) n cap) xs → i + d = n →
  ∃ xs', xs'.take i = xs.take i ∧ xs'.length = xs.length ∧ Kd.R k44 44 (W.setCells g (i * 4) (List.replicate (d * 4) (.int .i64 0))) base ok (.slice (some ⟨g, 0, none⟩) n cap) xs' ∧ W.grownBy (W.setCells g (i * 4) (List.replicate (d * 4) (.int .i64 0))) (some g) := by
 induction d with
 | zero => intro W i xs h e; exact ⟨xs, rfl, rfl, h, ⟨rfl, rfl, rfl, Nat.le_refl _, fun _ _ _ => rfl⟩⟩
 | succ d ih =>
  intro W i xs h e
  have hn := (Kd.R_reads' h).1
  obtain ⟨ce, hcl, hM, hcc, hfr⟩ := Kd.R_elem h z44 (i : Int) (by omega) (by omega)
  have HP := Kd.R_seg h (i : Int) (by omega) (by omega) (seg := [.int .i64 0, .int .i64 0, .int .i64 0, .int .i64 0]) (j := 0) hcl hcc (show 4 ≤ 4 from by decide) (x' := z44) (by
   obtain rfl := k44_openM hM
   exact k44_mkM _ _ _ z44) (fun _ hk => hk)
  rw [Int.toNat_natCast] at HP
  obtain ⟨h1, h2⟩ := HP
  obtain ⟨xs', q1, q2, q3, q4⟩ := ih _ (i + 1) _ h1 (by omega)
  have e1 : List.replicate ((d + 1) * 4) (Value.int .i64 0) = [.int .i64 0, .int .i64 0, .int .i64 0, .int .i64 0] ++ List.replicate (d * 4) (.int .i64 0) := by
   rw [show (d + 1) * 4 = 4 + d * 4 by omega, ← List.replicate_append_replicate]; rfl
  have e2 : (W.setCells g (i * 4) (List.replicate ((d + 1) * 4) (.int .i64 0))) = ((W.setCells g (i * (k44).sz + 0) [.int .i64 0, .int .i64 0, .int .i64 0, .int .i64 0]).setCells g ((i + 1) * 4) (List.replicate (d * 4) (.int .i64 0))) := by
   rw [e1, impl_Mat_99.set_cells_append]; congr 1; show i * 4 + 4 = (i + 1) * 4; omega
  rw [e2]
  refine ⟨xs', ?_, by simpa using q2, q3, h2.trans q4⟩
  have := congrArg (List.take i) q1
  rw [List.take_take, List.take_take, Nat.min_eq_left (Nat.le_succ i)] at this
  rw [this, List.take_set_of_le (Nat.le_refl _)]
theorem impl_Mat_99.cells_of_row {g n cap base : Nat} {ok : Nat → Prop} {W : World} {xs : List S44} (h : Kd.R k44 44 W base ok (.slice (some ⟨g, 0, none⟩) n cap) xs) (t : Nat) (ht : t < n * 4) : (W.cell? ⟨g, t, none⟩).isSome = true ∧ W.frozen? ⟨g, t, none⟩ = false := by
 obtain ⟨ce, hcl, hM, hcc, hfr⟩ := Kd.R_elem h z44 ((t / 4 : Nat) : Int) (by omega) (by omega)
 rw [Int.toNat_natCast, show (k44).sz = 4 from rfl] at hcc hfr
 have e : t / 4 * 4 + t % 4 = t := by omega
 have hl : ce.length = 4 := hcl
 have hr : t % 4 < ce.length := by rw [hl]; omega
 have h1 := hcc (t % 4) _ (List.getElem?_eq_getElem hr)
 have h2 := hfr (t % 4)
 rw [e] at h1 h2
 exact ⟨by rw [h1]; rfl, h2⟩
theorem impl_Mat_99.zero_run (W : World) : (zeroValue 44).run Try.prog W = .ok (.agg #[.int .i64 0, .int .i64 0, .int .i64 0, .int .i64 0]) W := by
 have := info44
 cases h : Try.prog.info? 44 with
 | none => rw [h] at this; cases this
 | some i =>
  rw [h] at this
  simp only [Option.map_some, Option.some.injEq, Prod.mk.injEq] at this
  simp [zeroValue, typeInfo, h, this.1]
theorem impl_Mat_99.clear_run {g n c base : Nat} {ok : Nat → Prop} {W : World} {xs : List S44} (h : Kd.R k44 44 W base ok (.slice (some ⟨g, 0, none⟩) n c) xs) (i : Nat) (hi : i < n) (ty : TypeId) (c' : Nat) :
  (Builtin.clear_ #[103] ty #[.slice (some ⟨g, i * 4, none⟩) (n - i) c']).run Try.prog W = .ok (.tuple #[]) (W.setCells g (i * 4) (List.replicate ((n - i) * 4) (.int .i64 0))) := by
 have hst := run_storeCells_cells (P := Try.prog) g (i * 4) (List.replicate ((n - i) * 4) (.int .i64 0)) 0 W (fun j hj => (impl_Mat_99.cells_of_row h (i * 4 + 0 + j) (by rw [List.length_replicate] at hj; omega)).1) (fun j hj => (impl_Mat_99.cells_of_row h (i * 4 + 0 + j) (by rw [List.length_replicate] at hj; omega)).2) (by intro v hv; rw [List.eq_of_mem_replicate hv]; rfl)
 simp only [Nat.add_zero] at hst
 have hz := impl_Mat_99.zeros (n - i)
 obtain ⟨q, hq⟩ : ∃ q, n - i = q + 1 := ⟨n - i - 1, by omega⟩
 rw [hq] at hst hz ⊢
 simp [Builtin.clear_, run_underlying Try.underlying103, impl_Mat_99.zero_run, Value.cells, hz, hst]
set_option maxHeartbeats 4000000 in
set_option maxRecDepth 100000 in
theorem impl_Mat_99.calls (p : S44 → Bool) (g : Nat) (lb : Array Value) (eg : ∀ args w, (callFunc g args).run Try.prog w = .ok (.enter g args) w) (P0_ : Nat → Prop) (u0_ : Value) (l : List S44) (w0 w : World) (hB : Below w0.heap.size w0 w) (ho : Kd.R k44 44 w w0.heap.size P0_ u0_ l)
  (hp : ∀ (x : S44) (W : World), Below w0.heap.size w0 W → Kept w W P0_ → Calls Try.prog g (#[.agg #[.int .i64 x.f0, .int .i64 x.f1, .int .i64 x.f2, .int .i64 x.f3]] ++ lb) W fun e w' => e = .returned (.bool (p x)) ∧ Below W.heap.size W w') :
  Calls Try.prog 99 #[u0_, .func (.func g) #[] lb] w fun e w' => ∃ v', e = .returned v' ∧ Kd.R k44 44 w' w0.heap.size (fun k_ => P0_ k_ ∨ w.heap.size ≤ k_) v' (l.filter fun x => !p x) ∧ Below w0.heap.size w0 w' ∧ Kept w w' P0_ := by
 have hu33 := Try.underlying44
 obtain ⟨A0, c0, e0, hlc, hC⟩ := Kd.R_reads ho
 subst e0
 have HI := impl_Mat_108.calls p g lb eg A0 c0 l w hC (fun x W hb => (hp x W (below_then hB hB.size hb) (Kept.of_below hb _)).mono fun e w' ⟨he, hb'⟩ => ⟨he, below_then hb hb.size hb'⟩)
 have HO := asd (show Kd.R k44 44 w w0.heap.size (fun k_ => P0_ k_ ∨ w.heap.size ≤ k_) (.slice A0 l.length c0) l from Kd.R_mono ho (fun k_ hk => .inl hk))
 have HP := Aside0.mk hp
 have HB := Aside0.mk hB
 have HBIG := asd (show l.length ≤ 9223372036854775807 from Kd.C_max hC)
 unfold impl_Mat_108.f at HI
 clear ho hp hB hC hlc
 cases hf : l.findIdx? p with
 | none =>
  rw [hf] at HI
  have hall : (l.filter fun x => !p x) = l := by
   rw [List.filter_eq_self]
   intro x hx
   have := List.findIdx?_eq_none_iff.1 hf x hx
   simp [this]
  rw [hall]
  clear hf hall
  replace HI : Calls Try.prog 108 #[.slice A0 l.length c0, .func (.func g) #[] lb] w fun e w' => e = .returned (.int .i64 (-1)) ∧ Below w.heap.size w w' := HI
  go_enter Try.func99, Try.ntmps99
  go_wp2_with (go_at_call 108; refine HI.mono ?_; rintro e w' ⟨rfl, hb'⟩)
  go_ret
  exact ⟨_, rfl, Kd.R_below HO.out hb', below_then HB.out HB.out.size hb', Kept.of_below hb' _⟩
 | some k =>
  rw [hf] at HI
  obtain ⟨hk, hpk, hbk⟩ := List.findIdx?_eq_some_iff_getElem.1 hf
  have HS := asd (impl_Mat_99.inv_start p l k hk hpk (fun j hj => by simpa using hbk j hj))
  have HK := Aside0.mk hk
  clear hf hpk hbk
  replace HI : Calls Try.prog 108 #[.slice A0 l.length c0, .func (.func g) #[] lb] w fun e w' => e = .returned (.int .i64 (k : Int)) ∧ Below w.heap.size w w' := HI
  have hne1 : ((k : Int) == -1) = false := beq_eq_false_iff_ne.2 (by omega)
  obtain ⟨go, co, eo, gb, gl, cl, HG⟩ := Kd.R_form HO.out (by omega)
  injection eo with ea_ en_ ec_
  subst ea_
  subst ec_
  clear en_ gl HG cl
  have HKW := asd (show wrap64 ((k : Int) + 1) = (k : Int) + 1 by have := HBIG.out; unfold wrap64; omega)
  clear hk
  go_enter Try.func99, Try.ntmps99
  go_wp2_with (go_at_call 108; refine HI.mono ?_; rintro e w' ⟨rfl, hb'⟩)
  go_loopg [5, 6, 7] l.length (fun gg s5 s6 _ wr => ∃ (i j : Int) (m : List S44), s5 = .int .i64 i ∧ s6 = .int .i64 j ∧ Aside0 (0 ≤ i ∧ i < j ∧ j ≤ l.length ∧ (l.length : Int) - j ≤ gg) ∧ Aside0 (impl_Mat_99.Inv p l i j m) ∧ Aside0 (Kd.R k44 44 wr w0.heap.size (fun k_ => P0_ k_ ∨ w.heap.size ≤ k_) (.slice (some ⟨go, 0, none⟩) l.length c0) m) ∧ Aside0 (Kept w wr P0_) ∧ Aside0 (Below w0.heap.size w0 wr))
  case atStart => exact ⟨k, wrap64 ((k : Int) + 1), l, rfl, rfl, ⟨by have := HK.out; rw [HKW.out]; omega⟩, ⟨by rw [HKW.out]; exact HS.out⟩, ⟨Kd.R_below HO.out hb'⟩, ⟨Kept.of_below hb' _⟩, ⟨below_then HB.out HB.out.size hb'⟩⟩
  case round =>
   clear HI
   obtain ⟨i, j, m, rfl, rfl, HX, HV, HR, HKP, HBW⟩ := hrel
   by_cases c4 : j < (l.length : Int)
   ·have c4b0 : decide (j < (l.length : Int)) = true := decide_eq_true c4
    have c5b0 : decide (0 ≤ j) = true := decide_eq_true (by have := HX.out; omega)
    obtain ⟨ce, hcl, hM, hcc, hfr⟩ := Kd.R_elem HR.out z44 j (by have := HX.out; omega) c4
    obtain rfl := k44_openM hM
    have hx0 : wr.cell? ⟨go, j.toNat * 4, none⟩ = some (.int .i64 ((rd_T44 m j).f0)) := hcc 0 _ rfl
    have hx1 : wr.cell? ⟨go, j.toNat * 4 + 1, none⟩ = some (.int .i64 ((rd_T44 m j).f1)) := hcc 1 _ rfl
    have hx2 : wr.cell? ⟨go, j.toNat * 4 + 2, none⟩ = some (.int .i64 ((rd_T44 m j).f2)) := hcc 2 _ rfl
    have hx3 : wr.cell? ⟨go, j.toNat * 4 + 3, none⟩ = some (.int .i64 ((rd_T44 m j).f3)) := hcc 3 _ rfl
    clear hcl hcc hfr hM
    have C4 := Aside0.mk c4
    have p215 : (0 ≤ j) = True := eq_true (by have := HX.out; omega)
    have q215 : (j < (l.length : Int)) = True := eq_true c4
    clear c4
    generalize hy : rd_T44 m j = y at hx0 hx1 hx2 hx3
    have HY := Aside0.mk hy
    clear hy
    have hI : 0 ≤ i ∧ i < (l.length : Int) := by have h1 := HX.out; have h2 := C4.out; omega
    have p300 : (0 ≤ i) = True := eq_true hI.1
    have q300 : (i < (l.length : Int)) = True := eq_true hI.2
    have c6b0 : decide (0 ≤ i) = true := decide_eq_true hI.1
    have c7b0 : decide (i < (l.length : Int)) = true := decide_eq_true hI.2
    have HI := Aside0.mk hI
    clear hI
    have hcall := HP.out y (wr.alloc (.cells #[.int .i64 y.f0, .int .i64 y.f1, .int .i64 y.f2, .int .i64 y.f3] 44)) (below_alloc HBW.out _) (Kept.alloc HKP.out _)
    cases hq : p y with
    | true =>
     rw [hq] at hcall
     have HQ := Aside0.mk hq
     clear hq
     go_wp2_with (go_at_fn g; refine hcall.mono ?_; rintro e w2 ⟨rfl, hb2⟩)
     go_roundg ((l.length : Int) - (j + 1)).toNat
     case measure => have h1 := HX.out; have h3 := C4.out; omega
     case rel =>
      have hw : wrap64 (j + 1) = j + 1 := by
       have h1 := HX.out; have h2 := HBIG.out; have h3 := C4.out
       unfold wrap64; omega
      have hb1 := Kept.below (Kept.alloc HKP.out (.cells #[.int .i64 y.f0, .int .i64 y.f1, .int .i64 y.f2, .int .i64 y.f3] 44)) hb2
      have hbb := below_then (below_alloc HBW.out (.cells #[.int .i64 y.f0, .int .i64 y.f1, .int .i64 y.f2, .int .i64 y.f3] 44)) (below_alloc HBW.out _).size hb2
      refine ⟨i, wrap64 (j + 1), m, rfl, rfl, ⟨?_⟩, ⟨?_⟩, ⟨Kd.R_below (Kd.R_alloc HR.out _) hb2⟩, ⟨hb1⟩, ⟨hbb⟩⟩
      ·have h1 := HX.out; have h3 := C4.out; rw [hw]; omega
      ·rw [hw]; exact impl_Mat_99.inv_skip p l m i j HX.out.1 HX.out.2.1 C4.out HV.out (by rw [HY.out]; exact HQ.out)
    | false =>
     rw [hq] at hcall
     have HQ := Aside0.mk hq
     clear hq
     go_wp2_with (go_at_fn g; refine hcall.mono ?_; rintro e w2 ⟨rfl, hb2⟩; have hz0 : w2.cell? ⟨wr.heap.size, 0, none⟩ = some (.int .i64 y.f0) := (hb2.cell (p := ⟨wr.heap.size, 0, none⟩) (by simp)).trans (by simp); have hz1 : w2.cell? ⟨wr.heap.size, 1, none⟩ = some (.int .i64 y.f1) := (hb2.cell (p := ⟨wr.heap.size, 1, none⟩) (by simp)).trans (by simp); have hz2 : w2.cell? ⟨wr.heap.size, 2, none⟩ = some (.int .i64 y.f2) := (hb2.cell (p := ⟨wr.heap.size, 2, none⟩) (by simp)).trans (by simp); have hz3 : w2.cell? ⟨wr.heap.size, 3, none⟩ = some (.int .i64 y.f3) := (hb2.cell (p := ⟨wr.heap.size, 3, none⟩) (by simp)).trans (by simp); have HR2 := asd (Kd.R_below (Kd.R_alloc HR.out (.cells #[.int .i64 y.f0, .int .i64 y.f1, .int .i64 y.f2, .int .i64 y.f3] 44)) hb2); obtain ⟨ce2, hcl2, hM2, hcc2, hfr2⟩ := Kd.R_elem HR2.out z44 i HI.out.1 HI.out.2; obtain rfl := k44_openM hM2; have hS2 := Kd.R_seg HR2.out i HI.out.1 HI.out.2 (seg := [.int .i64 y.f0, .int .i64 y.f1, .int .i64 y.f2, .int .i64 y.f3]) (j := 0) hcl2 hcc2 (show 4 ≤ 4 from by decide) (x' := y) (k44_mkM _ _ _ y) (fun _ hk => hk); have HS2 := Aside0.mk hS2; clear hS2; have hu0 := hcc2 0 _ rfl; have hu1 := hcc2 1 _ rfl; have hu2 := hcc2 2 _ rfl; have hu3 := hcc2 3 _ rfl; have hv0 := hfr2 0; have hv1 := hfr2 1; have hv2 := hfr2 2; have hv3 := hfr2 3; simp only [show (k44).sz = 4 from rfl, Nat.add_zero] at hu0 hu1 hu2 hu3 hv0 hv1 hv2 hv3; clear hcl2 hcc2 hfr2 hM2)
     go_roundg ((l.length : Int) - (j + 1)).toNat
     case measure => have h1 := HX.out; have h3 := C4.out; omega
     case rel =>
      have hw : wrap64 (j + 1) = j + 1 := by
       have h1 := HX.out; have h2 := HBIG.out; have h3 := C4.out
       unfold wrap64; omega
      have hw2 : wrap64 (i + 1) = i + 1 := by
       have h1 := HX.out; have h2 := HBIG.out; have h3 := C4.out
       unfold wrap64; omega
      have hb1 := Kept.below (Kept.alloc HKP.out (.cells #[.int .i64 y.f0, .int .i64 y.f1, .int .i64 y.f2, .int .i64 y.f3] 44)) hb2
      have hbb := below_then (below_alloc HBW.out (.cells #[.int .i64 y.f0, .int .i64 y.f1, .int .i64 y.f2, .int .i64 y.f3] 44)) (below_alloc HBW.out _).size hb2
      refine ⟨wrap64 (i + 1), wrap64 (j + 1), m.set i.toNat y, rfl, rfl, ⟨?_⟩, ⟨?_⟩, ⟨HS2.out.1⟩, ⟨Kept.of_grown HS2.out.2 hb1 (fun k_ e_ => HR2.out.1 k_ e_)⟩, ⟨?_⟩⟩
      ·have h1 := HX.out; have h3 := C4.out; rw [hw, hw2]; omega
      ·have := impl_Mat_99.inv_keep p l m i j HX.out.1 HX.out.2.1 C4.out HV.out (by rw [HY.out]; exact HQ.out)
       rw [hw, hw2]; rw [HY.out] at this; exact this
      ·exact below_set (below_set (below_set (below_set hbb gb) gb) gb) gb
   ·have c4b0 : decide (j < (l.length : Int)) = false := decide_eq_false c4
    have hje : j = l.length := by have := HX.out; omega
    obtain ⟨i, rfl⟩ := Int.eq_ofNat_of_zero_le HX.out.1
    have hil : i < l.length := by have := HX.out; omega
    have HJ := Aside0.mk hje
    have HIL := Aside0.mk hil
    have hlc := (Kd.R_reads' HR.out).2.1
    have hcl : ∀ ty, (Builtin.clear_ #[103] ty #[.slice (some ⟨go, i * 4, none⟩) (l.length - i) (c0 - i)]).run Try.prog wr = .ok (.tuple #[]) (wr.setCells go (i * 4) (List.replicate ((l.length - i) * 4) (.int .i64 0))) := fun ty => impl_Mat_99.clear_run HR.out i hil ty _
    clear c4 hje
    go_wp2
    go_ret
    obtain ⟨xs', q1, q2, q3, q4⟩ := impl_Mat_99.clear_row (l.length - i) wr i m HR.out (by have := HIL.out; omega)
    have hv := HV.out
    have hm := hv.1
    have hR := Kd.R_take q3 (m := i) (by rw [q2, hm]; have := HIL.out; omega)
    have hfin : xs'.take i = l.filter fun x => !p x := by
     have h2 := hv.2.1
     rw [Int.toNat_natCast, HJ.out, Int.toNat_natCast, List.take_length] at h2
     rw [q1, h2]
    rw [hfin] at hR
    exact ⟨_, rfl, hR, HBW.out.grown q4 HBW.out.size (fun k_ e_ => by injection e_ with e_; subst e_; exact gb), Kept.of_grown q4 HKP.out (fun k_ e_ => HR.out.1 k_ e_)⟩
/-! ### impl_norm: function 109 -/
def impl_norm.f (a0 : Int) (a1_0 : Int) (a1_1 : Int) : Option (Int) := some (wrap64 ((wrap64 ((wrap64 (a1_0 * a1_0)) + (wrap64 ((wrap64 (a0 * a1_0)) * a1_1)))) + (wrap64 (a1_1 * a1_1))))
set_option maxHeartbeats 8000000 in
set_option maxRecDepth 100000 in
theorem impl_norm.calls (a0 : Int) (a1_0 : Int) (a1_1 : Int) (r : Int) (w : World) (h : impl_norm.f a0 a1_0 a1_1 = some r) :
  Calls Try.prog 109 #[.int .i64 a0, .agg #[.int .i64 a1_0, .int .i64 a1_1]] w fun e w' => e = .returned (.int .i64 r) ∧ Below w.heap.size w w' := by
 have hu46 := Try.underlying46
 have HB := asd (Below.refl w.heap.size w)
 have H : (some (wrap64 ((wrap64 ((wrap64 (a1_0 * a1_0)) + (wrap64 ((wrap64 (a0 * a1_0)) * a1_1)))) + (wrap64 (a1_1 * a1_1))))) = some r := h
 clear h
 obtain rfl := Option.some.inj H
 go_enter Try.func109, Try.ntmps109
 go_wp2_with (first | ((with_reducible refine gd 3 rfl ?_); refine bx #[.int .i64 a1_0, .int .i64 a1_1] 46 ?_; intro gb367 hg w3 BK367 hb; have GE367 := ngw0 hg HB; replace HB := bS0 HB hb; clear hb hg; obtain ⟨hcz4_0, hcz4_1, hfz4_0, hfz4_1⟩ := bz2 BK367))
 go_ret
 exact er (bbw1 HB GE367)

attribute [local go_sem high] eqA46
/-! ### impl_pointMats: function 100 -/
def impl_pointMats.l0 : Nat → Int → List (S44) → Int → Option ((List (S44)))
 | 0, _, _, _ => none
 | k + 1, x0, x3, x10 => if x10 < 81 then ((impl_Mat_apply.f (wrap64 ((wrap64 (Int.tdiv x10 27)) - 1)) (wrap64 ((Int.tmod (wrap64 (Int.tdiv x10 9)) 3) - 1)) (wrap64 ((Int.tmod (wrap64 (Int.tdiv x10 3)) 3) - 1)) (wrap64 ((Int.tmod x10 3) - 1)) 1 0).bind fun bt372 => ((impl_Mat_apply.f (wrap64 ((wrap64 (Int.tdiv x10 27)) - 1)) (wrap64 ((Int.tmod (wrap64 (Int.tdiv x10 9)) 3) - 1)) (wrap64 ((Int.tmod (wrap64 (Int.tdiv x10 3)) 3) - 1)) (wrap64 ((Int.tmod x10 3) - 1)) 0 1).bind fun bt374 => ((impl_Mat_apply.f (wrap64 ((wrap64 (Int.tdiv x10 27)) - 1)) (wrap64 ((Int.tmod (wrap64 (Int.tdiv x10 9)) 3) - 1)) (wrap64 ((Int.tmod (wrap64 (Int.tdiv x10 3)) 3) - 1)) (wrap64 ((Int.tmod x10 3) - 1)) 1 1).bind fun bt376 => ((impl_norm.f x0 bt372.1 bt372.2).bind fun t381 => (if t381 = 1 then ((impl_norm.f x0 bt374.1 bt374.2).bind fun t382 => (if t382 = 1 then ((impl_norm.f x0 bt376.1 bt376.2).bind fun t383 => (if t383 = (wrap64 (2 + x0)) then (if x3.length < 4398046511104 then (impl_pointMats.l0 k x0 (x3 ++ [(⟨wrap64 ((wrap64 (Int.tdiv x10 27)) - 1), wrap64 ((Int.tmod (wrap64 (Int.tdiv x10 9)) 3) - 1), wrap64 ((Int.tmod (wrap64 (Int.tdiv x10 3)) 3) - 1), wrap64 ((Int.tmod x10 3) - 1)⟩ : S44)]) (wrap64 (x10 + 1))) else (none)) else (impl_pointMats.l0 k x0 x3 (wrap64 (x10 + 1))))) else (impl_pointMats.l0 k x0 x3 (wrap64 (x10 + 1))))) else (impl_pointMats.l0 k x0 x3 (wrap64 (x10 + 1)))))))) else (some x3)
def impl_pointMats.f (k : Nat) (a0 : Int) : Option ((List (S44))) := impl_pointMats.l0 k a0 (([] : List (S44))) 0
def impl_pointMats.T6 : Bool × List (List Nat × List Nat) := (true, [([], []), ([], []), ([0, 1], [0, 1]), ([], []), ([], []), ([3, 4, 2], [3, 4]), ([], []), ([], []), ([6, 7, 5], [6, 7]), ([], []), ([], []), ([], []), ([9, 2, 8, 0, 1, 2, 9, 10, 11], [2, 9]), ([10, 5, 12, 0, 1, 2, 3, 4, 5, 9, 10, 11, 12], [5, 10]), ([11, 8, 13, 0, 1, 2, 3, 4, 5, 6, 7, 8, 9, 10, 11, 12, 13], [8, 11])])
def impl_pointMats.B6 : List Nat := [0, 0, 3, 0, 0, 31, 0, 0, 255, 0, 0, 0, 4095, 8191, 16383]
theorem impl_pointMats.tab6 : rtab .any (opsOf Try.f100 6) = impl_pointMats.T6 := by kernel_rfl
theorem impl_pointMats.bits6 : waitsOk impl_pointMats.T6.2 impl_pointMats.B6 = true := by kernel_rfl
set_option maxHeartbeats 8000000 in
set_option maxRecDepth 100000 in
theorem impl_pointMats.calls (k : Nat) (a0 : Int) (r : List (S44)) (w : World) (h : impl_pointMats.f k a0 = some r) :
  Calls Try.prog 100 #[.int .i64 a0] w fun e w' => ∃ v0_ : Value, e = .returned (v0_) ∧ Kd.R k44 44 w' w.heap.size (fun _ => True) v0_ r ∧ Below w.heap.size w w' := by
 have hu44 := Try.underlying44
 have hu46 := Try.underlying46
 have HB := asd (Below.refl w.heap.size w)
 have H : (impl_pointMats.l0 k a0 (([] : List (S44))) 0) = some r := h
 clear h
 obtain ⟨y368, hy368⟩ : ∃ y_ : List (S44), y_ = (([] : List (S44))) := ⟨_, rfl⟩
 replace H : (impl_pointMats.l0 k a0 y368 0) = some r := by first | (rw [hy368]; with_reducible exact H) | (have H2_ := (Option.bind_some _ _).symm.trans H; rw [hy368]; with_reducible exact H2_) | (have H2_ := (Option.bind_some _ _).symm.trans H; with_reducible exact H2_) | with_reducible exact H | (rw [hy368]; exact H) | exact H
 have Ny368 := Aside0.mk hy368
 clear hy368
 have H' := Aside0.mk H
 clear H
 go_enter Try.func100, Try.ntmps100
 go_wp2_with (first | ((with_reducible refine gd 9 rfl ?_); refine Kd.R_lit k44 _ 44 ?hg (N := 9) ?hd (xs := ([] : List (S44))) (inner := []) (ok := fun _ => True) (okp := fun _ => True) ?hr ?hp (fun _ hk => hk) trivial (Below.refl _ _) (Nat.le_refl _) (by simp) ?_; (case hd => rfl); (case hg => rfl); (case hr => first | (go_simp; done) | (go_simp; rfl)); (case hp => exact (Reps.none _ _)); intro v369 w2 ho3 hb hg_ hnew_; clear hg_ hnew_; (first | rw [← Ny368.out] at ho3 | (simp only [Int.reduceToNat] at ho3; rw [← Ny368.out] at ho3)); have HO370 := asd (Kd.R_lower ho3 (bsz0 HB)); replace HB := bS0 HB hb; clear hb ho3))
 go_loopg [3, 10] k (fun kq v3 v10 w' => ∃ (x3_1 : List (S44)) (x10_1 : Int), v10 = .int .i64 x10_1 ∧ Aside0 (impl_pointMats.l0 kq a0 x3_1 x10_1 = some r) ∧ Aside0 (kq ≤ k) ∧ Aside0 (Kd.R k44 44 w' w.heap.size (fun _ => True) v3 x3_1) ∧ Aside0 (Below w.heap.size w w'))
 case atStart => exact ⟨(y368), (0), (by first | rfl | (simp; done) | (simp [*]; done)), H', ⟨Nat.le_refl _⟩, ⟨by (with_reducible repeat (first | apply Kd.R_alloc | apply Kd.R_drewN | apply Kd.R_drew)); exact HO370.out⟩, ⟨bbw0 HB⟩⟩
 case round =>
  clear H'
  try clear c1
  try clear p2
  obtain ⟨x3_1, x10_1, rfl, HA, HK1, HO_3, HB⟩ := hrel
  cases gk with
  | zero => exact absurd HA.out (by simp [impl_pointMats.l0])
  | succ k1 =>
   have H := HA.out
   clear HA
   simp only [impl_pointMats.l0] at H
   by_cases c4 : x10_1 < 81
   ·rw [if_pos c4] at H
    have c4b0 := decide_eq_true c4
    clear c4
    obtain ⟨⟨t372, t373⟩, A5, H⟩ := ob H
    try dsimp only at H
    obtain ⟨⟨t374, t375⟩, A6, H⟩ := ob H
    try dsimp only at H
    obtain ⟨⟨t376, t377⟩, A7, H⟩ := ob H
    try dsimp only at H
    have Hq_ := Aside0.mk H
    clear H
    try go_wp2_with (first | ((with_reducible refine gd 5 rfl ?_); refine bx #[.int .i64 0, .int .i64 0, .int .i64 0, .int .i64 0] 44 ?_; intro gb371 hg w15 BK371 hb; replace HO_3 := asd (Kd.R_below (Kd.R_elderB (kr HO_3) gb371 (Nat.le_of_eq hg.symm)) hb); have GE371 := ngw0 hg HB; replace HB := bS0 HB hb; clear hb hg; obtain ⟨hcz16_0, hcz16_1, hcz16_2, hcz16_3, hfz16_0, hfz16_1, hfz16_2, hfz16_3⟩ := bz4 BK371))
    obtain ⟨w17, h_w17⟩ : ∃ w_, ((((w15.setCell ⟨gb371, 0, none⟩ (.int .i64 (wrap64 ((wrap64 (Int.tdiv x10_1 27)) - 1)))).setCell ⟨gb371, 1, none⟩ (.int .i64 (wrap64 ((Int.tmod (wrap64 (Int.tdiv x10_1 9)) 3) - 1)))).setCell ⟨gb371, 2, none⟩ (.int .i64 (wrap64 ((Int.tmod (wrap64 (Int.tdiv x10_1 3)) 3) - 1)))).setCell ⟨gb371, 3, none⟩ (.int .i64 (wrap64 ((Int.tmod x10_1 3) - 1)))) = w_ := ⟨_, rfl⟩
    replace HO_3 : Aside0 (Kd.R k44 44 w17 w.heap.size (fun k_ => k_ ≠ gb371) u3 x3_1) := by rw [← h_w17]; exact ⟨by (with_reducible repeat (first | apply Kd.R_alloc | apply Kd.R_drewN | apply Kd.R_drew)); exact Kd.R_mono (rw4 (Kd.R_mono HO_3.out (fun k_ hk => (⟨hk, hk.2⟩ : _ ∧ k_ ≠ gb371)))) (fun _ hk => hk.1.2)⟩
    replace BK371 : Aside0 (w17.heap[gb371]? = some (.cells #[.int .i64 (wrap64 ((wrap64 (Int.tdiv x10_1 27)) - 1)), .int .i64 (wrap64 ((Int.tmod (wrap64 (Int.tdiv x10_1 9)) 3) - 1)), .int .i64 (wrap64 ((Int.tmod (wrap64 (Int.tdiv x10_1 3)) 3) - 1)), .int .i64 (wrap64 ((Int.tmod x10_1 3) - 1))] 44 (0, 0))) := by rw [← h_w17]; exact ⟨bq0 BK371⟩
    replace HB : Aside0 (Below w.heap.size w w17) := by rw [← h_w17]; exact ⟨bbw1 HB GE371⟩
    (try rw [h_w17]); clear h_w17
    replace HO_3 := asd (Kd.R_drew HO_3.out)
    replace BK371 := asd (blk_drew BK371.out)
    replace HB := asd (below_drew1 HB.out)
    refine start_ (n := 15) (S := fun w' => True) (ds := []) (bt 15 0) (by kernel_rfl) rfl rfl trivial (fun hHeld => ?_); refine with_tabW impl_pointMats.tab6 impl_pointMats.bits6 (fun HT_ HW_ => ?_)
    generalize w17.drew = w18 at HO_3 BK371 HB hHeld ⊢
    refine inv_at [0, 1, 2, 3, 4, 5, 6, 7, 8, 9, 10, 11, 12, 13, 14] (fun a0_ b a w' => ∃ (gb378 : Nat) (gb379 : Nat) (gb380 : Nat) (m9_ : Value) (m10_ : Value) (m11_ : Value), a = putSel a0_ b [(0, 28, .agg #[.int .i64 (wrap64 ((wrap64 (Int.tdiv x10_1 27)) - 1)), .int .i64 (wrap64 ((Int.tmod (wrap64 (Int.tdiv x10_1 9)) 3) - 1)), .int .i64 (wrap64 ((Int.tmod (wrap64 (Int.tdiv x10_1 3)) 3) - 1)), .int .i64 (wrap64 ((Int.tmod x10_1 3) - 1))]), (1, 29, .agg #[.int .i64 1, .int .i64 0]), (2, 30, .agg #[.int .i64 t372, .int .i64 t373]), (3, 31, .agg #[.int .i64 (wrap64 ((wrap64 (Int.tdiv x10_1 27)) - 1)), .int .i64 (wrap64 ((Int.tmod (wrap64 (Int.tdiv x10_1 9)) 3) - 1)), .int .i64 (wrap64 ((Int.tmod (wrap64 (Int.tdiv x10_1 3)) 3) - 1)), .int .i64 (wrap64 ((Int.tmod x10_1 3) - 1))]), (4, 32, .agg #[.int .i64 0, .int .i64 1]), (5, 33, .agg #[.int .i64 t374, .int .i64 t375]), (6, 34, .agg #[.int .i64 (wrap64 ((wrap64 (Int.tdiv x10_1 27)) - 1)), .int .i64 (wrap64 ((Int.tmod (wrap64 (Int.tdiv x10_1 9)) 3) - 1)), .int .i64 (wrap64 ((Int.tmod (wrap64 (Int.tdiv x10_1 3)) 3) - 1)), .int .i64 (wrap64 ((Int.tmod x10_1 3) - 1))]), (7, 35, .agg #[.int .i64 1, .int .i64 1]), (8, 36, .agg #[.int .i64 t376, .int .i64 t377]), (9, 6, m9_), (10, 7, m10_), (11, 8, m11_)] ∧ (Kd.R k44 44 w' w.heap.size (fun k_ => k_ ≠ gb371) u3 x3_1) ∧ (w'.heap[gb371]? = some (.cells #[.int .i64 (wrap64 ((wrap64 (Int.tdiv x10_1 27)) - 1)), .int .i64 (wrap64 ((Int.tmod (wrap64 (Int.tdiv x10_1 9)) 3) - 1)), .int .i64 (wrap64 ((Int.tmod (wrap64 (Int.tdiv x10_1 3)) 3) - 1)), .int .i64 (wrap64 ((Int.tmod x10_1 3) - 1))] 44 (0, 0))) ∧ (Below w.heap.size w w') ∧ (b 9 = true → b 10 = true → gb379 ≠ gb378) ∧ (b 9 = true → b 10 = true → gb378 ≠ gb379) ∧ (b 9 = true → b 11 = true → gb380 ≠ gb378) ∧ (b 9 = true → b 11 = true → gb378 ≠ gb380) ∧ (b 10 = true → b 11 = true → gb380 ≠ gb379) ∧ (b 10 = true → b 11 = true → gb379 ≠ gb380) ∧ (b 9 = true → b 12 = false → w'.heap[gb378]? = some (.cells #[.int .i64 0, .int .i64 0] 46 (0, 0))) ∧ (b 9 = true → w.heap.size ≤ gb378) ∧ (b 9 = true → w.heap.size ≤ gb378) ∧ (b 9 = true → gb371 ≠ gb378) ∧ (b 9 = true → gb378 ≠ gb371) ∧ (b 10 = true → b 13 = false → w'.heap[gb379]? = some (.cells #[.int .i64 0, .int .i64 0] 46 (0, 0))) ∧ (b 10 = true → w.heap.size ≤ gb379) ∧ (b 10 = true → w.heap.size ≤ gb379) ∧ (b 10 = true → gb371 ≠ gb379) ∧ (b 10 = true → gb379 ≠ gb371) ∧ (b 11 = true → b 14 = false → w'.heap[gb380]? = some (.cells #[.int .i64 0, .int .i64 0] 46 (0, 0))) ∧ (b 11 = true → w.heap.size ≤ gb380) ∧ (b 11 = true → w.heap.size ≤ gb380) ∧ (b 11 = true → gb371 ≠ gb380) ∧ (b 11 = true → gb380 ≠ gb371) ∧ (b 12 = true → w'.heap[gb378]? = some (.cells #[.int .i64 t372, .int .i64 t373] 46 (0, 0))) ∧ (b 13 = true → w'.heap[gb379]? = some (.cells #[.int .i64 t374, .int .i64 t375] 46 (0, 0))) ∧ (b 14 = true → w'.heap[gb380]? = some (.cells #[.int .i64 t376, .int .i64 t377] 46 (0, 0))) ∧ (b 9 = true → (m9_ : Value) = .pointer (some ⟨gb378, 0, none⟩)) ∧ (b 10 = true → (m10_ : Value) = .pointer (some ⟨gb379, 0, none⟩)) ∧ (b 11 = true → (m11_ : Value) = .pointer (some ⟨gb380, 0, none⟩))) HT_.out HW_.out (by kernel_rfl) (by kernel_rfl) ?_ ?_ ?_
    ·exact ⟨0, 0, 0, .bool false, .bool false, .bool false, by simp only [putSel, Bool.false_eq_true, if_false], HO_3.out, BK371.out, HB.out, fun h_ => absurd h_ (by decide), fun h_ => absurd h_ (by decide), fun h_ => absurd h_ (by decide), fun h_ => absurd h_ (by decide), fun h_ => absurd h_ (by decide), fun h_ => absurd h_ (by decide), fun h_ => absurd h_ (by decide), fun h_ => absurd h_ (by decide), fun h_ => absurd h_ (by decide), fun h_ => absurd h_ (by decide), fun h_ => absurd h_ (by decide), fun h_ => absurd h_ (by decide), fun h_ => absurd h_ (by decide), fun h_ => absurd h_ (by decide), fun h_ => absurd h_ (by decide), fun h_ => absurd h_ (by decide), fun h_ => absurd h_ (by decide), fun h_ => absurd h_ (by decide), fun h_ => absurd h_ (by decide), fun h_ => absurd h_ (by decide), fun h_ => absurd h_ (by decide), fun h_ => absurd h_ (by decide), fun h_ => absurd h_ (by decide), fun h_ => absurd h_ (by decide), fun h_ => absurd h_ (by decide), fun h_ => absurd h_ (by decide), fun h_ => absurd h_ (by decide)⟩
    ·skip
     clear BK371 HB HO_3
     refine steps_cons ?_ ?_
     ·rintro b a w' ⟨gb378, gb379, gb380, m9_, m10_, m11_, ha, Q_HO_3, Q_BK371, Q_HB, Q_NB379_378, Q_NB378_379, Q_NB380_378, Q_NB378_380, Q_NB380_379, Q_NB379_380, Q_BK378, Q_GW378, Q_GE378, Q_NB371_378, Q_NB378_371, Q_BK379, Q_GW379, Q_GE379, Q_NB371_379, Q_NB379_371, Q_BK380, Q_GW380, Q_GE380, Q_NB371_380, Q_NB380_371, Q_BK378_e12, Q_BK379_e13, Q_BK380_e14, Q_X9_, Q_X10_, Q_X11_⟩ hb_ hon hoff
      refine ⟨_, rfl, fun K hK => ?_⟩
      have e5 : a.tmps[5]? = some (.pointer (some ⟨gb371, 0, none⟩)) := by rw [ha]; exact (putSel_off rfl).trans rfl
      replace ha := Aside0.mk ha
      have HO_3 := Aside0.mk Q_HO_3
      have BK371 := Aside0.mk Q_BK371
      have HB := Aside0.mk Q_HB
      have hc0_ : w'.cell? ⟨gb371, 0, none⟩ = some (.int .i64 (wrap64 ((wrap64 (Int.tdiv x10_1 27)) - 1))) := bcl BK371 0
      have hc1_ : w'.cell? ⟨gb371, 1, none⟩ = some (.int .i64 (wrap64 ((Int.tmod (wrap64 (Int.tdiv x10_1 9)) 3) - 1))) := bcl BK371 1
      have hc2_ : w'.cell? ⟨gb371, 2, none⟩ = some (.int .i64 (wrap64 ((Int.tmod (wrap64 (Int.tdiv x10_1 3)) 3) - 1))) := bcl BK371 2
      have hc3_ : w'.cell? ⟨gb371, 3, none⟩ = some (.int .i64 (wrap64 ((Int.tmod x10_1 3) - 1))) := bcl BK371 3
      refine value_ (w1 := w') (v := .agg #[.int .i64 (wrap64 ((wrap64 (Int.tdiv x10_1 27)) - 1)), .int .i64 (wrap64 ((Int.tmod (wrap64 (Int.tdiv x10_1 9)) 3) - 1)), .int .i64 (wrap64 ((Int.tmod (wrap64 (Int.tdiv x10_1 3)) 3) - 1)), .int .i64 (wrap64 ((Int.tmod x10_1 3) - 1))]) (by rfl) rfl ?_ ?_
      ·go_simp
       (try simp only [i64_w])
       try rfl
      refine hK.out _ _ ⟨gb378, gb379, gb380, m9_, m10_, m11_, (by rw [ha.out]; exact putSel_upk 0 hb_ rfl rfl rfl), Q_HO_3, Q_BK371, Q_HB, Q_NB379_378, Q_NB378_379, Q_NB380_378, Q_NB378_380, Q_NB380_379, Q_NB379_380, Q_BK378, Q_GW378, Q_GE378, Q_NB371_378, Q_NB378_371, Q_BK379, Q_GW379, Q_GE379, Q_NB371_379, Q_NB379_371, Q_BK380, Q_GW380, Q_GE380, Q_NB371_380, Q_NB380_371, fun h0_ => absurd ((hoff 12 (by kernel_rfl)).symm.trans h0_) (by decide), fun h0_ => absurd ((hoff 13 (by kernel_rfl)).symm.trans h0_) (by decide), fun h0_ => absurd ((hoff 14 (by kernel_rfl)).symm.trans h0_) (by decide), Q_X9_, Q_X10_, Q_X11_⟩
     refine steps_cons ?_ ?_
     ·rintro b a w' ⟨gb378, gb379, gb380, m9_, m10_, m11_, ha, Q_HO_3, Q_BK371, Q_HB, Q_NB379_378, Q_NB378_379, Q_NB380_378, Q_NB378_380, Q_NB380_379, Q_NB379_380, Q_BK378, Q_GW378, Q_GE378, Q_NB371_378, Q_NB378_371, Q_BK379, Q_GW379, Q_GE379, Q_NB371_379, Q_NB379_371, Q_BK380, Q_GW380, Q_GE380, Q_NB371_380, Q_NB380_371, Q_BK378_e12, Q_BK379_e13, Q_BK380_e14, Q_X9_, Q_X10_, Q_X11_⟩ hb_ hon hoff
      refine ⟨_, rfl, fun K hK => ?_⟩
      replace ha := Aside0.mk ha
      have HO_3 := Aside0.mk Q_HO_3
      have BK371 := Aside0.mk Q_BK371
      have HB := Aside0.mk Q_HB
      refine value_ (w1 := w') (v := .agg #[.int .i64 1, .int .i64 0]) (by rfl) rfl ?_ ?_
      ·go_simp
       (try simp only [i64_w])
       try rfl
      refine hK.out _ _ ⟨gb378, gb379, gb380, m9_, m10_, m11_, (by rw [ha.out]; exact putSel_upk 1 hb_ rfl rfl rfl), Q_HO_3, Q_BK371, Q_HB, Q_NB379_378, Q_NB378_379, Q_NB380_378, Q_NB378_380, Q_NB380_379, Q_NB379_380, Q_BK378, Q_GW378, Q_GE378, Q_NB371_378, Q_NB378_371, Q_BK379, Q_GW379, Q_GE379, Q_NB371_379, Q_NB379_371, Q_BK380, Q_GW380, Q_GE380, Q_NB371_380, Q_NB380_371, fun h0_ => absurd ((hoff 12 (by kernel_rfl)).symm.trans h0_) (by decide), fun h0_ => absurd ((hoff 13 (by kernel_rfl)).symm.trans h0_) (by decide), fun h0_ => absurd ((hoff 14 (by kernel_rfl)).symm.trans h0_) (by decide), Q_X9_, Q_X10_, Q_X11_⟩
     refine steps_cons ?_ ?_
     ·rintro b a w' ⟨gb378, gb379, gb380, m9_, m10_, m11_, ha, Q_HO_3, Q_BK371, Q_HB, Q_NB379_378, Q_NB378_379, Q_NB380_378, Q_NB378_380, Q_NB380_379, Q_NB379_380, Q_BK378, Q_GW378, Q_GE378, Q_NB371_378, Q_NB378_371, Q_BK379, Q_GW379, Q_GE379, Q_NB371_379, Q_NB379_371, Q_BK380, Q_GW380, Q_GE380, Q_NB371_380, Q_NB380_371, Q_BK378_e12, Q_BK379_e13, Q_BK380_e14, Q_X9_, Q_X10_, Q_X11_⟩ hb_ hon hoff
      refine ⟨_, rfl, fun K hK => ?_⟩
      have e28 : a.tmps[28]? = some (.agg #[.int .i64 (wrap64 ((wrap64 (Int.tdiv x10_1 27)) - 1)), .int .i64 (wrap64 ((Int.tmod (wrap64 (Int.tdiv x10_1 9)) 3) - 1)), .int .i64 (wrap64 ((Int.tmod (wrap64 (Int.tdiv x10_1 3)) 3) - 1)), .int .i64 (wrap64 ((Int.tmod x10_1 3) - 1))]) := by rw [ha]; exact putSel_on (e := (0, 28, .agg #[.int .i64 (wrap64 ((wrap64 (Int.tdiv x10_1 27)) - 1)), .int .i64 (wrap64 ((Int.tmod (wrap64 (Int.tdiv x10_1 9)) 3) - 1)), .int .i64 (wrap64 ((Int.tmod (wrap64 (Int.tdiv x10_1 3)) 3) - 1)), .int .i64 (wrap64 ((Int.tmod x10_1 3) - 1))])) 0 rfl rfl (hon 0 (by kernel_rfl)) rfl
      have e29 : a.tmps[29]? = some (.agg #[.int .i64 1, .int .i64 0]) := by rw [ha]; exact putSel_on (e := (1, 29, .agg #[.int .i64 1, .int .i64 0])) 1 rfl rfl (hon 1 (by kernel_rfl)) rfl
      replace ha := Aside0.mk ha
      have HO_3 := Aside0.mk Q_HO_3
      have BK371 := Aside0.mk Q_BK371
      have HB := Aside0.mk Q_HB
      refine goes_ Try.func87 (by kernel_rfl) rfl #[.agg #[.int .i64 (wrap64 ((wrap64 (Int.tdiv x10_1 27)) - 1)), .int .i64 (wrap64 ((Int.tmod (wrap64 (Int.tdiv x10_1 9)) 3) - 1)), .int .i64 (wrap64 ((Int.tmod (wrap64 (Int.tdiv x10_1 3)) 3) - 1)), .int .i64 (wrap64 ((Int.tmod x10_1 3) - 1))], .agg #[.int .i64 1, .int .i64 0]] (by rfl) rfl rfl (by first | (simp only [List.map_toArray, List.map_cons, List.map_nil, Act.eval, Array.getD_eq_getD_getElem?, Option.getD_some, e28, e29]; done) | (simp only [List.map_toArray, List.map_cons, List.map_nil, Act.eval, Array.getD_eq_getD_getElem?, Option.getD_some, e28, e29]; rfl)) ?_
      with_reducible refine (impl_Mat_apply.calls _ _ _ _ _ _ _ _ _ A5.out).mono ?_
      rintro e w19 ⟨rfl, hb⟩
      refine ⟨_, rfl, ?_⟩
      have n0_ := asd (Kd.R_below (kr HO_3) hb)
      have n1_ := bB BK371 hb
      have n2_ := bS1 HB GE371 hb
      have z_BK378 := fun (h0_ : b 9 = true) (h1_ : b 12 = false) => (show w19.heap[gb378]? = some (.cells #[.int .i64 0, .int .i64 0] 46 (0, 0)) from by first | exact (blk_below (g := gb378) (o := .cells #[.int .i64 0, .int .i64 0] 46 (0, 0)) (by (with_reducible repeat (first | refine blk_drewN ?_ _ | refine blk_drew ?_ | refine blk_alloc ?_ _)); exact (Q_BK378 h0_ h1_)) hb))
      have z_BK379 := fun (h0_ : b 10 = true) (h1_ : b 13 = false) => (show w19.heap[gb379]? = some (.cells #[.int .i64 0, .int .i64 0] 46 (0, 0)) from by first | exact (blk_below (g := gb379) (o := .cells #[.int .i64 0, .int .i64 0] 46 (0, 0)) (by (with_reducible repeat (first | refine blk_drewN ?_ _ | refine blk_drew ?_ | refine blk_alloc ?_ _)); exact (Q_BK379 h0_ h1_)) hb))
      have z_BK380 := fun (h0_ : b 11 = true) (h1_ : b 14 = false) => (show w19.heap[gb380]? = some (.cells #[.int .i64 0, .int .i64 0] 46 (0, 0)) from by first | exact (blk_below (g := gb380) (o := .cells #[.int .i64 0, .int .i64 0] 46 (0, 0)) (by (with_reducible repeat (first | refine blk_drewN ?_ _ | refine blk_drew ?_ | refine blk_alloc ?_ _)); exact (Q_BK380 h0_ h1_)) hb))
      clear HO_3
      clear BK371
      clear HB
      have HO_3 := n0_
      have BK371 := n1_
      have HB := n2_
      clear n0_ n1_ n2_
      (try clear hb)
      (try clear hb2)
      (try clear hk)
      (try clear hi)
      refine hK.out _ _ ⟨gb378, gb379, gb380, m9_, m10_, m11_, (by rw [ha.out]; exact putSel_upk 2 hb_ rfl rfl rfl), (kr HO_3), (bkp BK371), (bbw1 HB GE371), Q_NB379_378, Q_NB378_379, Q_NB380_378, Q_NB378_380, Q_NB380_379, Q_NB379_380, z_BK378, Q_GW378, Q_GE378, Q_NB371_378, Q_NB378_371, z_BK379, Q_GW379, Q_GE379, Q_NB371_379, Q_NB379_371, z_BK380, Q_GW380, Q_GE380, Q_NB371_380, Q_NB380_371, fun h0_ => absurd ((hoff 12 (by kernel_rfl)).symm.trans h0_) (by decide), fun h0_ => absurd ((hoff 13 (by kernel_rfl)).symm.trans h0_) (by decide), fun h0_ => absurd ((hoff 14 (by kernel_rfl)).symm.trans h0_) (by decide), Q_X9_, Q_X10_, Q_X11_⟩
     refine steps_cons ?_ ?_
     ·rintro b a w' ⟨gb378, gb379, gb380, m9_, m10_, m11_, ha, Q_HO_3, Q_BK371, Q_HB, Q_NB379_378, Q_NB378_379, Q_NB380_378, Q_NB378_380, Q_NB380_379, Q_NB379_380, Q_BK378, Q_GW378, Q_GE378, Q_NB371_378, Q_NB378_371, Q_BK379, Q_GW379, Q_GE379, Q_NB371_379, Q_NB379_371, Q_BK380, Q_GW380, Q_GE380, Q_NB371_380, Q_NB380_371, Q_BK378_e12, Q_BK379_e13, Q_BK380_e14, Q_X9_, Q_X10_, Q_X11_⟩ hb_ hon hoff
      refine ⟨_, rfl, fun K hK => ?_⟩
      have e5 : a.tmps[5]? = some (.pointer (some ⟨gb371, 0, none⟩)) := by rw [ha]; exact (putSel_off rfl).trans rfl
      replace ha := Aside0.mk ha
      have HO_3 := Aside0.mk Q_HO_3
      have BK371 := Aside0.mk Q_BK371
      have HB := Aside0.mk Q_HB
      have hc0_ : w'.cell? ⟨gb371, 0, none⟩ = some (.int .i64 (wrap64 ((wrap64 (Int.tdiv x10_1 27)) - 1))) := bcl BK371 0
      have hc1_ : w'.cell? ⟨gb371, 1, none⟩ = some (.int .i64 (wrap64 ((Int.tmod (wrap64 (Int.tdiv x10_1 9)) 3) - 1))) := bcl BK371 1
      have hc2_ : w'.cell? ⟨gb371, 2, none⟩ = some (.int .i64 (wrap64 ((Int.tmod (wrap64 (Int.tdiv x10_1 3)) 3) - 1))) := bcl BK371 2
      have hc3_ : w'.cell? ⟨gb371, 3, none⟩ = some (.int .i64 (wrap64 ((Int.tmod x10_1 3) - 1))) := bcl BK371 3
      refine value_ (w1 := w') (v := .agg #[.int .i64 (wrap64 ((wrap64 (Int.tdiv x10_1 27)) - 1)), .int .i64 (wrap64 ((Int.tmod (wrap64 (Int.tdiv x10_1 9)) 3) - 1)), .int .i64 (wrap64 ((Int.tmod (wrap64 (Int.tdiv x10_1 3)) 3) - 1)), .int .i64 (wrap64 ((Int.tmod x10_1 3) - 1))]) (by rfl) rfl ?_ ?_
      ·go_simp
       (try simp only [i64_w])
       try rfl
      refine hK.out _ _ ⟨gb378, gb379, gb380, m9_, m10_, m11_, (by rw [ha.out]; exact putSel_upk 3 hb_ rfl rfl rfl), Q_HO_3, Q_BK371, Q_HB, Q_NB379_378, Q_NB378_379, Q_NB380_378, Q_NB378_380, Q_NB380_379, Q_NB379_380, Q_BK378, Q_GW378, Q_GE378, Q_NB371_378, Q_NB378_371, Q_BK379, Q_GW379, Q_GE379, Q_NB371_379, Q_NB379_371, Q_BK380, Q_GW380, Q_GE380, Q_NB371_380, Q_NB380_371, fun h0_ => absurd ((hoff 12 (by kernel_rfl)).symm.trans h0_) (by decide), fun h0_ => absurd ((hoff 13 (by kernel_rfl)).symm.trans h0_) (by decide), fun h0_ => absurd ((hoff 14 (by kernel_rfl)).symm.trans h0_) (by decide), Q_X9_, Q_X10_, Q_X11_⟩
     refine steps_cons ?_ ?_
     ·rintro b a w' ⟨gb378, gb379, gb380, m9_, m10_, m11_, ha, Q_HO_3, Q_BK371, Q_HB, Q_NB379_378, Q_NB378_379, Q_NB380_378, Q_NB378_380, Q_NB380_379, Q_NB379_380, Q_BK378, Q_GW378, Q_GE378, Q_NB371_378, Q_NB378_371, Q_BK379, Q_GW379, Q_GE379, Q_NB371_379, Q_NB379_371, Q_BK380, Q_GW380, Q_GE380, Q_NB371_380, Q_NB380_371, Q_BK378_e12, Q_BK379_e13, Q_BK380_e14, Q_X9_, Q_X10_, Q_X11_⟩ hb_ hon hoff
      refine ⟨_, rfl, fun K hK => ?_⟩
      replace ha := Aside0.mk ha
      have HO_3 := Aside0.mk Q_HO_3
      have BK371 := Aside0.mk Q_BK371
      have HB := Aside0.mk Q_HB
      refine value_ (w1 := w') (v := .agg #[.int .i64 0, .int .i64 1]) (by rfl) rfl ?_ ?_
      ·go_simp
       (try simp only [i64_w])
       try rfl
      refine hK.out _ _ ⟨gb378, gb379, gb380, m9_, m10_, m11_, (by rw [ha.out]; exact putSel_upk 4 hb_ rfl rfl rfl), Q_HO_3, Q_BK371, Q_HB, Q_NB379_378, Q_NB378_379, Q_NB380_378, Q_NB378_380, Q_NB380_379, Q_NB379_380, Q_BK378, Q_GW378, Q_GE378, Q_NB371_378, Q_NB378_371, Q_BK379, Q_GW379, Q_GE379, Q_NB371_379, Q_NB379_371, Q_BK380, Q_GW380, Q_GE380, Q_NB371_380, Q_NB380_371, fun h0_ => absurd ((hoff 12 (by kernel_rfl)).symm.trans h0_) (by decide), fun h0_ => absurd ((hoff 13 (by kernel_rfl)).symm.trans h0_) (by decide), fun h0_ => absurd ((hoff 14 (by kernel_rfl)).symm.trans h0_) (by decide), Q_X9_, Q_X10_, Q_X11_⟩
     refine steps_cons ?_ ?_
     ·rintro b a w' ⟨gb378, gb379, gb380, m9_, m10_, m11_, ha, Q_HO_3, Q_BK371, Q_HB, Q_NB379_378, Q_NB378_379, Q_NB380_378, Q_NB378_380, Q_NB380_379, Q_NB379_380, Q_BK378, Q_GW378, Q_GE378, Q_NB371_378, Q_NB378_371, Q_BK379, Q_GW379, Q_GE379, Q_NB371_379, Q_NB379_371, Q_BK380, Q_GW380, Q_GE380, Q_NB371_380, Q_NB380_371, Q_BK378_e12, Q_BK379_e13, Q_BK380_e14, Q_X9_, Q_X10_, Q_X11_⟩ hb_ hon hoff
      refine ⟨_, rfl, fun K hK => ?_⟩
      have e31 : a.tmps[31]? = some (.agg #[.int .i64 (wrap64 ((wrap64 (Int.tdiv x10_1 27)) - 1)), .int .i64 (wrap64 ((Int.tmod (wrap64 (Int.tdiv x10_1 9)) 3) - 1)), .int .i64 (wrap64 ((Int.tmod (wrap64 (Int.tdiv x10_1 3)) 3) - 1)), .int .i64 (wrap64 ((Int.tmod x10_1 3) - 1))]) := by rw [ha]; exact putSel_on (e := (3, 31, .agg #[.int .i64 (wrap64 ((wrap64 (Int.tdiv x10_1 27)) - 1)), .int .i64 (wrap64 ((Int.tmod (wrap64 (Int.tdiv x10_1 9)) 3) - 1)), .int .i64 (wrap64 ((Int.tmod (wrap64 (Int.tdiv x10_1 3)) 3) - 1)), .int .i64 (wrap64 ((Int.tmod x10_1 3) - 1))])) 3 rfl rfl (hon 3 (by kernel_rfl)) rfl
      have e32 : a.tmps[32]? = some (.agg #[.int .i64 0, .int .i64 1]) := by rw [ha]; exact putSel_on (e := (4, 32, .agg #[.int .i64 0, .int .i64 1])) 4 rfl rfl (hon 4 (by kernel_rfl)) rfl
      replace ha := Aside0.mk ha
      have HO_3 := Aside0.mk Q_HO_3
      have BK371 := Aside0.mk Q_BK371
      have HB := Aside0.mk Q_HB
      refine goes_ Try.func87 (by kernel_rfl) rfl #[.agg #[.int .i64 (wrap64 ((wrap64 (Int.tdiv x10_1 27)) - 1)), .int .i64 (wrap64 ((Int.tmod (wrap64 (Int.tdiv x10_1 9)) 3) - 1)), .int .i64 (wrap64 ((Int.tmod (wrap64 (Int.tdiv x10_1 3)) 3) - 1)), .int .i64 (wrap64 ((Int.tmod x10_1 3) - 1))], .agg #[.int .i64 0, .int .i64 1]] (by rfl) rfl rfl (by first | (simp only [List.map_toArray, List.map_cons, List.map_nil, Act.eval, Array.getD_eq_getD_getElem?, Option.getD_some, e31, e32]; done) | (simp only [List.map_toArray, List.map_cons, List.map_nil, Act.eval, Array.getD_eq_getD_getElem?, Option.getD_some, e31, e32]; rfl)) ?_
      with_reducible refine (impl_Mat_apply.calls _ _ _ _ _ _ _ _ _ A6.out).mono ?_
      rintro e w21 ⟨rfl, hb⟩
      refine ⟨_, rfl, ?_⟩
      have n0_ := asd (Kd.R_below (kr HO_3) hb)
      have n1_ := bB BK371 hb
      have n2_ := bS1 HB GE371 hb
      have z_BK378 := fun (h0_ : b 9 = true) (h1_ : b 12 = false) => (show w21.heap[gb378]? = some (.cells #[.int .i64 0, .int .i64 0] 46 (0, 0)) from by first | exact (blk_below (g := gb378) (o := .cells #[.int .i64 0, .int .i64 0] 46 (0, 0)) (by (with_reducible repeat (first | refine blk_drewN ?_ _ | refine blk_drew ?_ | refine blk_alloc ?_ _)); exact (Q_BK378 h0_ h1_)) hb))
      have z_BK379 := fun (h0_ : b 10 = true) (h1_ : b 13 = false) => (show w21.heap[gb379]? = some (.cells #[.int .i64 0, .int .i64 0] 46 (0, 0)) from by first | exact (blk_below (g := gb379) (o := .cells #[.int .i64 0, .int .i64 0] 46 (0, 0)) (by (with_reducible repeat (first | refine blk_drewN ?_ _ | refine blk_drew ?_ | refine blk_alloc ?_ _)); exact (Q_BK379 h0_ h1_)) hb))
      have z_BK380 := fun (h0_ : b 11 = true) (h1_ : b 14 = false) => (show w21.heap[gb380]? = some (.cells #[.int .i64 0, .int .i64 0] 46 (0, 0)) from by first | exact (blk_below (g := gb380) (o := .cells #[.int .i64 0, .int .i64 0] 46 (0, 0)) (by (with_reducible repeat (first | refine blk_drewN ?_ _ | refine blk_drew ?_ | refine blk_alloc ?_ _)); exact (Q_BK380 h0_ h1_)) hb))
      clear HO_3
      clear BK371
      clear HB
      have HO_3 := n0_
      have BK371 := n1_
      have HB := n2_
      clear n0_ n1_ n2_
      (try clear hb)
      (try clear hb2)
      (try clear hk)
      (try clear hi)
      refine hK.out _ _ ⟨gb378, gb379, gb380, m9_, m10_, m11_, (by rw [ha.out]; exact putSel_upk 5 hb_ rfl rfl rfl), (kr HO_3), (bkp BK371), (bbw1 HB GE371), Q_NB379_378, Q_NB378_379, Q_NB380_378, Q_NB378_380, Q_NB380_379, Q_NB379_380, z_BK378, Q_GW378, Q_GE378, Q_NB371_378, Q_NB378_371, z_BK379, Q_GW379, Q_GE379, Q_NB371_379, Q_NB379_371, z_BK380, Q_GW380, Q_GE380, Q_NB371_380, Q_NB380_371, fun h0_ => absurd ((hoff 12 (by kernel_rfl)).symm.trans h0_) (by decide), fun h0_ => absurd ((hoff 13 (by kernel_rfl)).symm.trans h0_) (by decide), fun h0_ => absurd ((hoff 14 (by kernel_rfl)).symm.trans h0_) (by decide), Q_X9_, Q_X10_, Q_X11_⟩
     refine steps_cons ?_ ?_
     ·rintro b a w' ⟨gb378, gb379, gb380, m9_, m10_, m11_, ha, Q_HO_3, Q_BK371, Q_HB, Q_NB379_378, Q_NB378_379, Q_NB380_378, Q_NB378_380, Q_NB380_379, Q_NB379_380, Q_BK378, Q_GW378, Q_GE378, Q_NB371_378, Q_NB378_371, Q_BK379, Q_GW379, Q_GE379, Q_NB371_379, Q_NB379_371, Q_BK380, Q_GW380, Q_GE380, Q_NB371_380, Q_NB380_371, Q_BK378_e12, Q_BK379_e13, Q_BK380_e14, Q_X9_, Q_X10_, Q_X11_⟩ hb_ hon hoff
      refine ⟨_, rfl, fun K hK => ?_⟩
      have e5 : a.tmps[5]? = some (.pointer (some ⟨gb371, 0, none⟩)) := by rw [ha]; exact (putSel_off rfl).trans rfl
      replace ha := Aside0.mk ha
      have HO_3 := Aside0.mk Q_HO_3
      have BK371 := Aside0.mk Q_BK371
      have HB := Aside0.mk Q_HB
      have hc0_ : w'.cell? ⟨gb371, 0, none⟩ = some (.int .i64 (wrap64 ((wrap64 (Int.tdiv x10_1 27)) - 1))) := bcl BK371 0
      have hc1_ : w'.cell? ⟨gb371, 1, none⟩ = some (.int .i64 (wrap64 ((Int.tmod (wrap64 (Int.tdiv x10_1 9)) 3) - 1))) := bcl BK371 1
      have hc2_ : w'.cell? ⟨gb371, 2, none⟩ = some (.int .i64 (wrap64 ((Int.tmod (wrap64 (Int.tdiv x10_1 3)) 3) - 1))) := bcl BK371 2
      have hc3_ : w'.cell? ⟨gb371, 3, none⟩ = some (.int .i64 (wrap64 ((Int.tmod x10_1 3) - 1))) := bcl BK371 3
      refine value_ (w1 := w') (v := .agg #[.int .i64 (wrap64 ((wrap64 (Int.tdiv x10_1 27)) - 1)), .int .i64 (wrap64 ((Int.tmod (wrap64 (Int.tdiv x10_1 9)) 3) - 1)), .int .i64 (wrap64 ((Int.tmod (wrap64 (Int.tdiv x10_1 3)) 3) - 1)), .int .i64 (wrap64 ((Int.tmod x10_1 3) - 1))]) (by rfl) rfl ?_ ?_
      ·go_simp
       (try simp only [i64_w])
       try rfl
      refine hK.out _ _ ⟨gb378, gb379, gb380, m9_, m10_, m11_, (by rw [ha.out]; exact putSel_upk 6 hb_ rfl rfl rfl), Q_HO_3, Q_BK371, Q_HB, Q_NB379_378, Q_NB378_379, Q_NB380_378, Q_NB378_380, Q_NB380_379, Q_NB379_380, Q_BK378, Q_GW378, Q_GE378, Q_NB371_378, Q_NB378_371, Q_BK379, Q_GW379, Q_GE379, Q_NB371_379, Q_NB379_371, Q_BK380, Q_GW380, Q_GE380, Q_NB371_380, Q_NB380_371, fun h0_ => absurd ((hoff 12 (by kernel_rfl)).symm.trans h0_) (by decide), fun h0_ => absurd ((hoff 13 (by kernel_rfl)).symm.trans h0_) (by decide), fun h0_ => absurd ((hoff 14 (by kernel_rfl)).symm.trans h0_) (by decide), Q_X9_, Q_X10_, Q_X11_⟩
     refine steps_cons ?_ ?_
     ·rintro b a w' ⟨gb378, gb379, gb380, m9_, m10_, m11_, ha, Q_HO_3, Q_BK371, Q_HB, Q_NB379_378, Q_NB378_379, Q_NB380_378, Q_NB378_380, Q_NB380_379, Q_NB379_380, Q_BK378, Q_GW378, Q_GE378, Q_NB371_378, Q_NB378_371, Q_BK379, Q_GW379, Q_GE379, Q_NB371_379, Q_NB379_371, Q_BK380, Q_GW380, Q_GE380, Q_NB371_380, Q_NB380_371, Q_BK378_e12, Q_BK379_e13, Q_BK380_e14, Q_X9_, Q_X10_, Q_X11_⟩ hb_ hon hoff
      refine ⟨_, rfl, fun K hK => ?_⟩
      replace ha := Aside0.mk ha
      have HO_3 := Aside0.mk Q_HO_3
      have BK371 := Aside0.mk Q_BK371
      have HB := Aside0.mk Q_HB
      refine value_ (w1 := w') (v := .agg #[.int .i64 1, .int .i64 1]) (by rfl) rfl ?_ ?_
      ·go_simp
       (try simp only [i64_w])
       try rfl
      refine hK.out _ _ ⟨gb378, gb379, gb380, m9_, m10_, m11_, (by rw [ha.out]; exact putSel_upk 7 hb_ rfl rfl rfl), Q_HO_3, Q_BK371, Q_HB, Q_NB379_378, Q_NB378_379, Q_NB380_378, Q_NB378_380, Q_NB380_379, Q_NB379_380, Q_BK378, Q_GW378, Q_GE378, Q_NB371_378, Q_NB378_371, Q_BK379, Q_GW379, Q_GE379, Q_NB371_379, Q_NB379_371, Q_BK380, Q_GW380, Q_GE380, Q_NB371_380, Q_NB380_371, fun h0_ => absurd ((hoff 12 (by kernel_rfl)).symm.trans h0_) (by decide), fun h0_ => absurd ((hoff 13 (by kernel_rfl)).symm.trans h0_) (by decide), fun h0_ => absurd ((hoff 14 (by kernel_rfl)).symm.trans h0_) (by decide), Q_X9_, Q_X10_, Q_X11_⟩
     refine steps_cons ?_ ?_
     ·rintro b a w' ⟨gb378, gb379, gb380, m9_, m10_, m11_, ha, Q_HO_3, Q_BK371, Q_HB, Q_NB379_378, Q_NB378_379, Q_NB380_378, Q_NB378_380, Q_NB380_379, Q_NB379_380, Q_BK378, Q_GW378, Q_GE378, Q_NB371_378, Q_NB378_371, Q_BK379, Q_GW379, Q_GE379, Q_NB371_379, Q_NB379_371, Q_BK380, Q_GW380, Q_GE380, Q_NB371_380, Q_NB380_371, Q_BK378_e12, Q_BK379_e13, Q_BK380_e14, Q_X9_, Q_X10_, Q_X11_⟩ hb_ hon hoff
      refine ⟨_, rfl, fun K hK => ?_⟩
      have e34 : a.tmps[34]? = some (.agg #[.int .i64 (wrap64 ((wrap64 (Int.tdiv x10_1 27)) - 1)), .int .i64 (wrap64 ((Int.tmod (wrap64 (Int.tdiv x10_1 9)) 3) - 1)), .int .i64 (wrap64 ((Int.tmod (wrap64 (Int.tdiv x10_1 3)) 3) - 1)), .int .i64 (wrap64 ((Int.tmod x10_1 3) - 1))]) := by rw [ha]; exact putSel_on (e := (6, 34, .agg #[.int .i64 (wrap64 ((wrap64 (Int.tdiv x10_1 27)) - 1)), .int .i64 (wrap64 ((Int.tmod (wrap64 (Int.tdiv x10_1 9)) 3) - 1)), .int .i64 (wrap64 ((Int.tmod (wrap64 (Int.tdiv x10_1 3)) 3) - 1)), .int .i64 (wrap64 ((Int.tmod x10_1 3) - 1))])) 6 rfl rfl (hon 6 (by kernel_rfl)) rfl
      have e35 : a.tmps[35]? = some (.agg #[.int .i64 1, .int .i64 1]) := by rw [ha]; exact putSel_on (e := (7, 35, .agg #[.int .i64 1, .int .i64 1])) 7 rfl rfl (hon 7 (by kernel_rfl)) rfl
      replace ha := Aside0.mk ha
      have HO_3 := Aside0.mk Q_HO_3
      have BK371 := Aside0.mk Q_BK371
      have HB := Aside0.mk Q_HB
      refine goes_ Try.func87 (by kernel_rfl) rfl #[.agg #[.int .i64 (wrap64 ((wrap64 (Int.tdiv x10_1 27)) - 1)), .int .i64 (wrap64 ((Int.tmod (wrap64 (Int.tdiv x10_1 9)) 3) - 1)), .int .i64 (wrap64 ((Int.tmod (wrap64 (Int.tdiv x10_1 3)) 3) - 1)), .int .i64 (wrap64 ((Int.tmod x10_1 3) - 1))], .agg #[.int .i64 1, .int .i64 1]] (by rfl) rfl rfl (by first | (simp only [List.map_toArray, List.map_cons, List.map_nil, Act.eval, Array.getD_eq_getD_getElem?, Option.getD_some, e34, e35]; done) | (simp only [List.map_toArray, List.map_cons, List.map_nil, Act.eval, Array.getD_eq_getD_getElem?, Option.getD_some, e34, e35]; rfl)) ?_
      with_reducible refine (impl_Mat_apply.calls _ _ _ _ _ _ _ _ _ A7.out).mono ?_
      rintro e w22 ⟨rfl, hb⟩
      refine ⟨_, rfl, ?_⟩
      have n0_ := asd (Kd.R_below (kr HO_3) hb)
      have n1_ := bB BK371 hb
      have n2_ := bS1 HB GE371 hb
      have z_BK378 := fun (h0_ : b 9 = true) (h1_ : b 12 = false) => (show w22.heap[gb378]? = some (.cells #[.int .i64 0, .int .i64 0] 46 (0, 0)) from by first | exact (blk_below (g := gb378) (o := .cells #[.int .i64 0, .int .i64 0] 46 (0, 0)) (by (with_reducible repeat (first | refine blk_drewN ?_ _ | refine blk_drew ?_ | refine blk_alloc ?_ _)); exact (Q_BK378 h0_ h1_)) hb))
      have z_BK379 := fun (h0_ : b 10 = true) (h1_ : b 13 = false) => (show w22.heap[gb379]? = some (.cells #[.int .i64 0, .int .i64 0] 46 (0, 0)) from by first | exact (blk_below (g := gb379) (o := .cells #[.int .i64 0, .int .i64 0] 46 (0, 0)) (by (with_reducible repeat (first | refine blk_drewN ?_ _ | refine blk_drew ?_ | refine blk_alloc ?_ _)); exact (Q_BK379 h0_ h1_)) hb))
      have z_BK380 := fun (h0_ : b 11 = true) (h1_ : b 14 = false) => (show w22.heap[gb380]? = some (.cells #[.int .i64 0, .int .i64 0] 46 (0, 0)) from by first | exact (blk_below (g := gb380) (o := .cells #[.int .i64 0, .int .i64 0] 46 (0, 0)) (by (with_reducible repeat (first | refine blk_drewN ?_ _ | refine blk_drew ?_ | refine blk_alloc ?_ _)); exact (Q_BK380 h0_ h1_)) hb))
      clear HO_3
      clear BK371
      clear HB
      have HO_3 := n0_
      have BK371 := n1_
      have HB := n2_
      clear n0_ n1_ n2_
      (try clear hb)
      (try clear hb2)
      (try clear hk)
      (try clear hi)
      refine hK.out _ _ ⟨gb378, gb379, gb380, m9_, m10_, m11_, (by rw [ha.out]; exact putSel_upk 8 hb_ rfl rfl rfl), (kr HO_3), (bkp BK371), (bbw1 HB GE371), Q_NB379_378, Q_NB378_379, Q_NB380_378, Q_NB378_380, Q_NB380_379, Q_NB379_380, z_BK378, Q_GW378, Q_GE378, Q_NB371_378, Q_NB378_371, z_BK379, Q_GW379, Q_GE379, Q_NB371_379, Q_NB379_371, z_BK380, Q_GW380, Q_GE380, Q_NB371_380, Q_NB380_371, fun h0_ => absurd ((hoff 12 (by kernel_rfl)).symm.trans h0_) (by decide), fun h0_ => absurd ((hoff 13 (by kernel_rfl)).symm.trans h0_) (by decide), fun h0_ => absurd ((hoff 14 (by kernel_rfl)).symm.trans h0_) (by decide), Q_X9_, Q_X10_, Q_X11_⟩
     refine steps_cons ?_ ?_
     ·rintro b a w' ⟨gb378, gb379, gb380, m9_, m10_, m11_, ha, Q_HO_3, Q_BK371, Q_HB, Q_NB379_378, Q_NB378_379, Q_NB380_378, Q_NB378_380, Q_NB380_379, Q_NB379_380, Q_BK378, Q_GW378, Q_GE378, Q_NB371_378, Q_NB378_371, Q_BK379, Q_GW379, Q_GE379, Q_NB371_379, Q_NB379_371, Q_BK380, Q_GW380, Q_GE380, Q_NB371_380, Q_NB380_371, Q_BK378_e12, Q_BK379_e13, Q_BK380_e14, Q_X9_, Q_X10_, Q_X11_⟩ hb_ hon hoff
      refine ⟨_, rfl, fun K hK => ?_⟩
      replace ha := Aside0.mk ha
      have HO_3 := Aside0.mk Q_HO_3
      have BK371 := Aside0.mk Q_BK371
      have HB := Aside0.mk Q_HB
      refine box_step ?hg (N := 6) ?hd (cs := #[.int .i64 0, .int .i64 0]) (t := 46) ?hr ?_; (case hd => rfl); (case hg => rfl); (case hr => first | (go_simp; done) | (go_simp; rfl))
      intro gb378 hg w19 hbox hb
      have n0_ := asd (Kd.R_below (kr HO_3) hb)
      have n1_ := bB BK371 hb
      have n2_ := bS1 HB GE371 hb
      have n3_ := asd (hbox)
      have n4_ := ngw1 hg HB GE371
      have n5_ := ngw1 hg HB GE371
      have n6_ := nlt hg BK371
      have n7_ := nsy (nlt hg BK371)
      have z_NB379_378 := fun (h0_ : up b 9 9 = true) (h1_ : up b 9 10 = true) => (show gb379 ≠ gb378 from ((by rw [hg]; exact Nat.ne_of_lt (by cases hq_ : b 13 with | false => exact blk_lt (g := gb379) (Q_BK379 h1_ hq_) | true => exact blk_lt (g := gb379) (Q_BK379_e13 hq_)) : gb379 ≠ gb378)))
      have z_NB378_379 := fun (h0_ : up b 9 9 = true) (h1_ : up b 9 10 = true) => (show gb378 ≠ gb379 from ((by rw [hg]; exact Nat.ne_of_gt (by cases hq_ : b 13 with | false => exact blk_lt (g := gb379) (Q_BK379 h1_ hq_) | true => exact blk_lt (g := gb379) (Q_BK379_e13 hq_)) : gb378 ≠ gb379)))
      have z_NB380_378 := fun (h0_ : up b 9 9 = true) (h1_ : up b 9 11 = true) => (show gb380 ≠ gb378 from ((by rw [hg]; exact Nat.ne_of_lt (by cases hq_ : b 14 with | false => exact blk_lt (g := gb380) (Q_BK380 h1_ hq_) | true => exact blk_lt (g := gb380) (Q_BK380_e14 hq_)) : gb380 ≠ gb378)))
      have z_NB378_380 := fun (h0_ : up b 9 9 = true) (h1_ : up b 9 11 = true) => (show gb378 ≠ gb380 from ((by rw [hg]; exact Nat.ne_of_gt (by cases hq_ : b 14 with | false => exact blk_lt (g := gb380) (Q_BK380 h1_ hq_) | true => exact blk_lt (g := gb380) (Q_BK380_e14 hq_)) : gb378 ≠ gb380)))
      have z_BK379 := fun (h0_ : b 10 = true) (h1_ : b 13 = false) => (show w19.heap[gb379]? = some (.cells #[.int .i64 0, .int .i64 0] 46 (0, 0)) from by first | exact (blk_below (g := gb379) (o := .cells #[.int .i64 0, .int .i64 0] 46 (0, 0)) (by (with_reducible repeat (first | refine blk_drewN ?_ _ | refine blk_drew ?_ | refine blk_alloc ?_ _)); exact (Q_BK379 h0_ h1_)) hb))
      have z_BK380 := fun (h0_ : b 11 = true) (h1_ : b 14 = false) => (show w19.heap[gb380]? = some (.cells #[.int .i64 0, .int .i64 0] 46 (0, 0)) from by first | exact (blk_below (g := gb380) (o := .cells #[.int .i64 0, .int .i64 0] 46 (0, 0)) (by (with_reducible repeat (first | refine blk_drewN ?_ _ | refine blk_drew ?_ | refine blk_alloc ?_ _)); exact (Q_BK380 h0_ h1_)) hb))
      clear HO_3
      clear BK371
      clear HB
      have HO_3 := n0_
      have BK371 := n1_
      have HB := n2_
      have BK378 := n3_
      have GW378 := n4_
      have GE378 := n5_
      have NB371_378 := n6_
      have NB378_371 := n7_
      clear n0_ n1_ n2_ n3_ n4_ n5_ n6_ n7_
      clear hb hbox hg
      refine hK.out _ _ ⟨gb378, gb379, gb380, (.pointer (some ⟨gb378, 0, none⟩)), m10_, m11_, (by rw [ha.out]; exact putSel_upk 9 hb_ rfl rfl rfl), (kr HO_3), (bkp BK371), (bbw2 HB GE371 GE378), @z_NB379_378, @z_NB378_379, @z_NB380_378, @z_NB378_380, Q_NB380_379, Q_NB379_380, fun _ _ => (bkp BK378), fun _ => GW378.out, fun _ => GE378.out, fun _ => NB371_378.out, fun _ => NB378_371.out, z_BK379, Q_GW379, Q_GE379, Q_NB371_379, Q_NB379_371, z_BK380, Q_GW380, Q_GE380, Q_NB371_380, Q_NB380_371, fun h0_ => absurd ((hoff 12 (by kernel_rfl)).symm.trans h0_) (by decide), fun h0_ => absurd ((hoff 13 (by kernel_rfl)).symm.trans h0_) (by decide), fun h0_ => absurd ((hoff 14 (by kernel_rfl)).symm.trans h0_) (by decide), fun _ => rfl, Q_X10_, Q_X11_⟩
     refine steps_cons ?_ ?_
     ·rintro b a w' ⟨gb378, gb379, gb380, m9_, m10_, m11_, ha, Q_HO_3, Q_BK371, Q_HB, Q_NB379_378, Q_NB378_379, Q_NB380_378, Q_NB378_380, Q_NB380_379, Q_NB379_380, Q_BK378, Q_GW378, Q_GE378, Q_NB371_378, Q_NB378_371, Q_BK379, Q_GW379, Q_GE379, Q_NB371_379, Q_NB379_371, Q_BK380, Q_GW380, Q_GE380, Q_NB371_380, Q_NB380_371, Q_BK378_e12, Q_BK379_e13, Q_BK380_e14, Q_X9_, Q_X10_, Q_X11_⟩ hb_ hon hoff
      refine ⟨_, rfl, fun K hK => ?_⟩
      replace ha := Aside0.mk ha
      have HO_3 := Aside0.mk Q_HO_3
      have BK371 := Aside0.mk Q_BK371
      have HB := Aside0.mk Q_HB
      refine box_step ?hg (N := 7) ?hd (cs := #[.int .i64 0, .int .i64 0]) (t := 46) ?hr ?_; (case hd => rfl); (case hg => rfl); (case hr => first | (go_simp; done) | (go_simp; rfl))
      intro gb379 hg w19 hbox hb
      have n0_ := asd (Kd.R_below (kr HO_3) hb)
      have n1_ := bB BK371 hb
      have n2_ := bS1 HB GE371 hb
      have n3_ := asd (hbox)
      have n4_ := ngw1 hg HB GE371
      have n5_ := ngw1 hg HB GE371
      have n6_ := nlt hg BK371
      have n7_ := nsy (nlt hg BK371)
      have z_NB379_378 := fun (h0_ : up b 10 9 = true) (h1_ : up b 10 10 = true) => (show gb379 ≠ gb378 from ((by rw [hg]; exact Nat.ne_of_gt (by cases hq_ : b 12 with | false => exact blk_lt (g := gb378) (Q_BK378 h0_ hq_) | true => exact blk_lt (g := gb378) (Q_BK378_e12 hq_)) : gb379 ≠ gb378)))
      have z_NB378_379 := fun (h0_ : up b 10 9 = true) (h1_ : up b 10 10 = true) => (show gb378 ≠ gb379 from ((by rw [hg]; exact Nat.ne_of_lt (by cases hq_ : b 12 with | false => exact blk_lt (g := gb378) (Q_BK378 h0_ hq_) | true => exact blk_lt (g := gb378) (Q_BK378_e12 hq_)) : gb378 ≠ gb379)))
      have z_NB380_379 := fun (h0_ : up b 10 10 = true) (h1_ : up b 10 11 = true) => (show gb380 ≠ gb379 from ((by rw [hg]; exact Nat.ne_of_lt (by cases hq_ : b 14 with | false => exact blk_lt (g := gb380) (Q_BK380 h1_ hq_) | true => exact blk_lt (g := gb380) (Q_BK380_e14 hq_)) : gb380 ≠ gb379)))
      have z_NB379_380 := fun (h0_ : up b 10 10 = true) (h1_ : up b 10 11 = true) => (show gb379 ≠ gb380 from ((by rw [hg]; exact Nat.ne_of_gt (by cases hq_ : b 14 with | false => exact blk_lt (g := gb380) (Q_BK380 h1_ hq_) | true => exact blk_lt (g := gb380) (Q_BK380_e14 hq_)) : gb379 ≠ gb380)))
      have z_BK378 := fun (h0_ : b 9 = true) (h1_ : b 12 = false) => (show w19.heap[gb378]? = some (.cells #[.int .i64 0, .int .i64 0] 46 (0, 0)) from by first | exact (blk_below (g := gb378) (o := .cells #[.int .i64 0, .int .i64 0] 46 (0, 0)) (by (with_reducible repeat (first | refine blk_drewN ?_ _ | refine blk_drew ?_ | refine blk_alloc ?_ _)); exact (Q_BK378 h0_ h1_)) hb))
      have z_BK380 := fun (h0_ : b 11 = true) (h1_ : b 14 = false) => (show w19.heap[gb380]? = some (.cells #[.int .i64 0, .int .i64 0] 46 (0, 0)) from by first | exact (blk_below (g := gb380) (o := .cells #[.int .i64 0, .int .i64 0] 46 (0, 0)) (by (with_reducible repeat (first | refine blk_drewN ?_ _ | refine blk_drew ?_ | refine blk_alloc ?_ _)); exact (Q_BK380 h0_ h1_)) hb))
      clear HO_3
      clear BK371
      clear HB
      have HO_3 := n0_
      have BK371 := n1_
      have HB := n2_
      have BK379 := n3_
      have GW379 := n4_
      have GE379 := n5_
      have NB371_379 := n6_
      have NB379_371 := n7_
      clear n0_ n1_ n2_ n3_ n4_ n5_ n6_ n7_
      clear hb hbox hg
      refine hK.out _ _ ⟨gb378, gb379, gb380, m9_, (.pointer (some ⟨gb379, 0, none⟩)), m11_, (by rw [ha.out]; exact putSel_upk 10 hb_ rfl rfl rfl), (kr HO_3), (bkp BK371), (bbw2 HB GE371 GE379), @z_NB379_378, @z_NB378_379, Q_NB380_378, Q_NB378_380, @z_NB380_379, @z_NB379_380, z_BK378, Q_GW378, Q_GE378, Q_NB371_378, Q_NB378_371, fun _ _ => (bkp BK379), fun _ => GW379.out, fun _ => GE379.out, fun _ => NB371_379.out, fun _ => NB379_371.out, z_BK380, Q_GW380, Q_GE380, Q_NB371_380, Q_NB380_371, fun h0_ => absurd ((hoff 12 (by kernel_rfl)).symm.trans h0_) (by decide), fun h0_ => absurd ((hoff 13 (by kernel_rfl)).symm.trans h0_) (by decide), fun h0_ => absurd ((hoff 14 (by kernel_rfl)).symm.trans h0_) (by decide), Q_X9_, fun _ => rfl, Q_X11_⟩
     refine steps_cons ?_ ?_
     ·rintro b a w' ⟨gb378, gb379, gb380, m9_, m10_, m11_, ha, Q_HO_3, Q_BK371, Q_HB, Q_NB379_378, Q_NB378_379, Q_NB380_378, Q_NB378_380, Q_NB380_379, Q_NB379_380, Q_BK378, Q_GW378, Q_GE378, Q_NB371_378, Q_NB378_371, Q_BK379, Q_GW379, Q_GE379, Q_NB371_379, Q_NB379_371, Q_BK380, Q_GW380, Q_GE380, Q_NB371_380, Q_NB380_371, Q_BK378_e12, Q_BK379_e13, Q_BK380_e14, Q_X9_, Q_X10_, Q_X11_⟩ hb_ hon hoff
      refine ⟨_, rfl, fun K hK => ?_⟩
      replace ha := Aside0.mk ha
      have HO_3 := Aside0.mk Q_HO_3
      have BK371 := Aside0.mk Q_BK371
      have HB := Aside0.mk Q_HB
      refine box_step ?hg (N := 8) ?hd (cs := #[.int .i64 0, .int .i64 0]) (t := 46) ?hr ?_; (case hd => rfl); (case hg => rfl); (case hr => first | (go_simp; done) | (go_simp; rfl))
      intro gb380 hg w19 hbox hb
      have n0_ := asd (Kd.R_below (kr HO_3) hb)
      have n1_ := bB BK371 hb
      have n2_ := bS1 HB GE371 hb
      have n3_ := asd (hbox)
      have n4_ := ngw1 hg HB GE371
      have n5_ := ngw1 hg HB GE371
      have n6_ := nlt hg BK371
      have n7_ := nsy (nlt hg BK371)
      have z_NB380_378 := fun (h0_ : up b 11 9 = true) (h1_ : up b 11 11 = true) => (show gb380 ≠ gb378 from ((by rw [hg]; exact Nat.ne_of_gt (by cases hq_ : b 12 with | false => exact blk_lt (g := gb378) (Q_BK378 h0_ hq_) | true => exact blk_lt (g := gb378) (Q_BK378_e12 hq_)) : gb380 ≠ gb378)))
      have z_NB378_380 := fun (h0_ : up b 11 9 = true) (h1_ : up b 11 11 = true) => (show gb378 ≠ gb380 from ((by rw [hg]; exact Nat.ne_of_lt (by cases hq_ : b 12 with | false => exact blk_lt (g := gb378) (Q_BK378 h0_ hq_) | true => exact blk_lt (g := gb378) (Q_BK378_e12 hq_)) : gb378 ≠ gb380)))
      have z_NB380_379 := fun (h0_ : up b 11 10 = true) (h1_ : up b 11 11 = true) => (show gb380 ≠ gb379 from ((by rw [hg]; exact Nat.ne_of_gt (by cases hq_ : b 13 with | false => exact blk_lt (g := gb379) (Q_BK379 h0_ hq_) | true => exact blk_lt (g := gb379) (Q_BK379_e13 hq_)) : gb380 ≠ gb379)))
      have z_NB379_380 := fun (h0_ : up b 11 10 = true) (h1_ : up b 11 11 = true) => (show gb379 ≠ gb380 from ((by rw [hg]; exact Nat.ne_of_lt (by cases hq_ : b 13 with | false => exact blk_lt (g := gb379) (Q_BK379 h0_ hq_) | true => exact blk_lt (g := gb379) (Q_BK379_e13 hq_)) : gb379 ≠ gb380)))
      have z_BK378 := fun (h0_ : b 9 = true) (h1_ : b 12 = false) => (show w19.heap[gb378]? = some (.cells #[.int .i64 0, .int .i64 0] 46 (0, 0)) from by first | exact (blk_below (g := gb378) (o := .cells #[.int .i64 0, .int .i64 0] 46 (0, 0)) (by (with_reducible repeat (first | refine blk_drewN ?_ _ | refine blk_drew ?_ | refine blk_alloc ?_ _)); exact (Q_BK378 h0_ h1_)) hb))
      have z_BK379 := fun (h0_ : b 10 = true) (h1_ : b 13 = false) => (show w19.heap[gb379]? = some (.cells #[.int .i64 0, .int .i64 0] 46 (0, 0)) from by first | exact (blk_below (g := gb379) (o := .cells #[.int .i64 0, .int .i64 0] 46 (0, 0)) (by (with_reducible repeat (first | refine blk_drewN ?_ _ | refine blk_drew ?_ | refine blk_alloc ?_ _)); exact (Q_BK379 h0_ h1_)) hb))
      clear HO_3
      clear BK371
      clear HB
      have HO_3 := n0_
      have BK371 := n1_
      have HB := n2_
      have BK380 := n3_
      have GW380 := n4_
      have GE380 := n5_
      have NB371_380 := n6_
      have NB380_371 := n7_
      clear n0_ n1_ n2_ n3_ n4_ n5_ n6_ n7_
      clear hb hbox hg
      refine hK.out _ _ ⟨gb378, gb379, gb380, m9_, m10_, (.pointer (some ⟨gb380, 0, none⟩)), (by rw [ha.out]; exact putSel_upk 11 hb_ rfl rfl rfl), (kr HO_3), (bkp BK371), (bbw2 HB GE371 GE380), Q_NB379_378, Q_NB378_379, @z_NB380_378, @z_NB378_380, @z_NB380_379, @z_NB379_380, z_BK378, Q_GW378, Q_GE378, Q_NB371_378, Q_NB378_371, z_BK379, Q_GW379, Q_GE379, Q_NB371_379, Q_NB379_371, fun _ _ => (bkp BK380), fun _ => GW380.out, fun _ => GE380.out, fun _ => NB371_380.out, fun _ => NB380_371.out, fun h0_ => absurd ((hoff 12 (by kernel_rfl)).symm.trans h0_) (by decide), fun h0_ => absurd ((hoff 13 (by kernel_rfl)).symm.trans h0_) (by decide), fun h0_ => absurd ((hoff 14 (by kernel_rfl)).symm.trans h0_) (by decide), Q_X9_, Q_X10_, fun _ => rfl⟩
     refine steps_cons ?_ ?_
     ·rintro b a w' ⟨gb378, gb379, gb380, m9_, m10_, m11_, ha, Q_HO_3, Q_BK371, Q_HB, Q_NB379_378, Q_NB378_379, Q_NB380_378, Q_NB378_380, Q_NB380_379, Q_NB379_380, Q_BK378, Q_GW378, Q_GE378, Q_NB371_378, Q_NB378_371, Q_BK379, Q_GW379, Q_GE379, Q_NB371_379, Q_NB379_371, Q_BK380, Q_GW380, Q_GE380, Q_NB371_380, Q_NB380_371, Q_BK378_e12, Q_BK379_e13, Q_BK380_e14, Q_X9_, Q_X10_, Q_X11_⟩ hb_ hon hoff
      refine ⟨_, rfl, fun K hK => ?_⟩
      have e6 : a.tmps[6]? = some (m9_) := by rw [ha]; exact putSel_on (e := (9, 6, m9_)) 9 rfl rfl (hon 9 (by kernel_rfl)) rfl
      rw [Q_X9_ (hon 9 (by kernel_rfl))] at e6
      have e30 : a.tmps[30]? = some (.agg #[.int .i64 t372, .int .i64 t373]) := by rw [ha]; exact putSel_on (e := (2, 30, .agg #[.int .i64 t372, .int .i64 t373])) 2 rfl rfl (hon 2 (by kernel_rfl)) rfl
      replace ha := Aside0.mk ha
      have HO_3 := Aside0.mk Q_HO_3
      have BK371 := Aside0.mk Q_BK371
      have HB := Aside0.mk Q_HB
      have NB379_378 := asd (Q_NB379_378 (hon 9 (by kernel_rfl)) (hon 10 (by kernel_rfl)))
      have NB378_379 := asd (Q_NB378_379 (hon 9 (by kernel_rfl)) (hon 10 (by kernel_rfl)))
      have NB380_378 := asd (Q_NB380_378 (hon 9 (by kernel_rfl)) (hon 11 (by kernel_rfl)))
      have NB378_380 := asd (Q_NB378_380 (hon 9 (by kernel_rfl)) (hon 11 (by kernel_rfl)))
      have NB380_379 := asd (Q_NB380_379 (hon 10 (by kernel_rfl)) (hon 11 (by kernel_rfl)))
      have NB379_380 := asd (Q_NB379_380 (hon 10 (by kernel_rfl)) (hon 11 (by kernel_rfl)))
      have BK378 := asd (Q_BK378 (hon 9 (by kernel_rfl)) hb_)
      have GW378 := asd (Q_GW378 (hon 9 (by kernel_rfl)))
      have GE378 := asd (Q_GE378 (hon 9 (by kernel_rfl)))
      have NB371_378 := asd (Q_NB371_378 (hon 9 (by kernel_rfl)))
      have NB378_371 := asd (Q_NB378_371 (hon 9 (by kernel_rfl)))
      have BK379 := asd (Q_BK379 (hon 10 (by kernel_rfl)) (hoff 13 (by kernel_rfl)))
      have GW379 := asd (Q_GW379 (hon 10 (by kernel_rfl)))
      have GE379 := asd (Q_GE379 (hon 10 (by kernel_rfl)))
      have NB371_379 := asd (Q_NB371_379 (hon 10 (by kernel_rfl)))
      have NB379_371 := asd (Q_NB379_371 (hon 10 (by kernel_rfl)))
      have BK380 := asd (Q_BK380 (hon 11 (by kernel_rfl)) (hoff 14 (by kernel_rfl)))
      have GW380 := asd (Q_GW380 (hon 11 (by kernel_rfl)))
      have GE380 := asd (Q_GE380 (hon 11 (by kernel_rfl)))
      have NB371_380 := asd (Q_NB371_380 (hon 11 (by kernel_rfl)))
      have NB380_371 := asd (Q_NB380_371 (hon 11 (by kernel_rfl)))
      have hs26 : w'.cell? ⟨gb378, 0, none⟩ = some (.int .i64 0) := bcl BK378 0
      have hfs26 := blk_frozen BK378.out 0
      have hns26_0 := NB371_378.out
      have hns26_2 := NB379_378.out
      have hns26_3 := NB380_378.out
      have hms26_0 := NB378_371.out
      have hms26_2 := NB378_379.out
      have hms26_3 := NB378_380.out
      have hs27 : w'.cell? ⟨gb378, 1, none⟩ = some (.int .i64 0) := bcl BK378 1
      have hfs27 := blk_frozen BK378.out 1
      have hns27_0 := NB371_378.out
      have hns27_2 := NB379_378.out
      have hns27_3 := NB380_378.out
      have hms27_0 := NB378_371.out
      have hms27_2 := NB378_379.out
      have hms27_3 := NB378_380.out
      refine skip_ (w1 := ?_) (by rfl) rfl ?_ ?_
      rotate_left
      ·go_simp
       rfl
      refine hK.out _ _ ⟨gb378, gb379, gb380, m9_, m10_, m11_, (by rw [ha.out]; exact putSel_none (v := undef) rfl), (by (with_reducible repeat (first | apply Kd.R_alloc | apply Kd.R_drewN | apply Kd.R_drew)); exact Kd.R_mono (rw2 (Kd.R_types HO_3.out BK378.out (by decide))) (fun _ hk => hk.1)), (bq1 BK371 NB371_378), (bbw4 HB GE371 GE378 GE379 GE380), fun _ _ => NB379_378.out, fun _ _ => NB378_379.out, fun _ _ => NB380_378.out, fun _ _ => NB378_380.out, fun _ _ => NB380_379.out, fun _ _ => NB379_380.out, fun _ h1_ => absurd ((up_self b 12).symm.trans h1_) (by decide), fun _ => GW378.out, fun _ => GE378.out, fun _ => NB371_378.out, fun _ => NB378_371.out, fun _ _ => (bq1 BK379 NB379_378), fun _ => GW379.out, fun _ => GE379.out, fun _ => NB371_379.out, fun _ => NB379_371.out, fun _ _ => (bq1 BK380 NB380_378), fun _ => GW380.out, fun _ => GE380.out, fun _ => NB371_380.out, fun _ => NB380_371.out, fun _ => (bq0 BK378), fun h0_ => absurd ((hoff 13 (by kernel_rfl)).symm.trans h0_) (by decide), fun h0_ => absurd ((hoff 14 (by kernel_rfl)).symm.trans h0_) (by decide), Q_X9_, Q_X10_, Q_X11_⟩
     refine steps_cons ?_ ?_
     ·rintro b a w' ⟨gb378, gb379, gb380, m9_, m10_, m11_, ha, Q_HO_3, Q_BK371, Q_HB, Q_NB379_378, Q_NB378_379, Q_NB380_378, Q_NB378_380, Q_NB380_379, Q_NB379_380, Q_BK378, Q_GW378, Q_GE378, Q_NB371_378, Q_NB378_371, Q_BK379, Q_GW379, Q_GE379, Q_NB371_379, Q_NB379_371, Q_BK380, Q_GW380, Q_GE380, Q_NB371_380, Q_NB380_371, Q_BK378_e12, Q_BK379_e13, Q_BK380_e14, Q_X9_, Q_X10_, Q_X11_⟩ hb_ hon hoff
      refine ⟨_, rfl, fun K hK => ?_⟩
      have e7 : a.tmps[7]? = some (m10_) := by rw [ha]; exact putSel_on (e := (10, 7, m10_)) 10 rfl rfl (hon 10 (by kernel_rfl)) rfl
      rw [Q_X10_ (hon 10 (by kernel_rfl))] at e7
      have e33 : a.tmps[33]? = some (.agg #[.int .i64 t374, .int .i64 t375]) := by rw [ha]; exact putSel_on (e := (5, 33, .agg #[.int .i64 t374, .int .i64 t375])) 5 rfl rfl (hon 5 (by kernel_rfl)) rfl
      replace ha := Aside0.mk ha
      have HO_3 := Aside0.mk Q_HO_3
      have BK371 := Aside0.mk Q_BK371
      have HB := Aside0.mk Q_HB
      have NB379_378 := asd (Q_NB379_378 (hon 9 (by kernel_rfl)) (hon 10 (by kernel_rfl)))
      have NB378_379 := asd (Q_NB378_379 (hon 9 (by kernel_rfl)) (hon 10 (by kernel_rfl)))
      have NB380_378 := asd (Q_NB380_378 (hon 9 (by kernel_rfl)) (hon 11 (by kernel_rfl)))
      have NB378_380 := asd (Q_NB378_380 (hon 9 (by kernel_rfl)) (hon 11 (by kernel_rfl)))
      have NB380_379 := asd (Q_NB380_379 (hon 10 (by kernel_rfl)) (hon 11 (by kernel_rfl)))
      have NB379_380 := asd (Q_NB379_380 (hon 10 (by kernel_rfl)) (hon 11 (by kernel_rfl)))
      have GW378 := asd (Q_GW378 (hon 9 (by kernel_rfl)))
      have GE378 := asd (Q_GE378 (hon 9 (by kernel_rfl)))
      have NB371_378 := asd (Q_NB371_378 (hon 9 (by kernel_rfl)))
      have NB378_371 := asd (Q_NB378_371 (hon 9 (by kernel_rfl)))
      have BK379 := asd (Q_BK379 (hon 10 (by kernel_rfl)) hb_)
      have GW379 := asd (Q_GW379 (hon 10 (by kernel_rfl)))
      have GE379 := asd (Q_GE379 (hon 10 (by kernel_rfl)))
      have NB371_379 := asd (Q_NB371_379 (hon 10 (by kernel_rfl)))
      have NB379_371 := asd (Q_NB379_371 (hon 10 (by kernel_rfl)))
      have BK380 := asd (Q_BK380 (hon 11 (by kernel_rfl)) (hoff 14 (by kernel_rfl)))
      have GW380 := asd (Q_GW380 (hon 11 (by kernel_rfl)))
      have GE380 := asd (Q_GE380 (hon 11 (by kernel_rfl)))
      have NB371_380 := asd (Q_NB371_380 (hon 11 (by kernel_rfl)))
      have NB380_371 := asd (Q_NB380_371 (hon 11 (by kernel_rfl)))
      have BK378 := asd (Q_BK378_e12 (hon 12 (by kernel_rfl)))
      have hs28 : w'.cell? ⟨gb379, 0, none⟩ = some (.int .i64 0) := bcl BK379 0
      have hfs28 := blk_frozen BK379.out 0
      have hns28_0 := NB371_379.out
      have hns28_1 := NB378_379.out
      have hns28_3 := NB380_379.out
      have hms28_0 := NB379_371.out
      have hms28_1 := NB379_378.out
      have hms28_3 := NB379_380.out
      have hs29 : w'.cell? ⟨gb379, 1, none⟩ = some (.int .i64 0) := bcl BK379 1
      have hfs29 := blk_frozen BK379.out 1
      have hns29_0 := NB371_379.out
      have hns29_1 := NB378_379.out
      have hns29_3 := NB380_379.out
      have hms29_0 := NB379_371.out
      have hms29_1 := NB379_378.out
      have hms29_3 := NB379_380.out
      refine skip_ (w1 := ?_) (by rfl) rfl ?_ ?_
      rotate_left
      ·go_simp
       rfl
      refine hK.out _ _ ⟨gb378, gb379, gb380, m9_, m10_, m11_, (by rw [ha.out]; exact putSel_none (v := undef) rfl), (by (with_reducible repeat (first | apply Kd.R_alloc | apply Kd.R_drewN | apply Kd.R_drew)); exact Kd.R_mono (rw2 (Kd.R_types HO_3.out BK379.out (by decide))) (fun _ hk => hk.1)), (bq1 BK371 NB371_379), (bbw4 HB GE371 GE378 GE379 GE380), fun _ _ => NB379_378.out, fun _ _ => NB378_379.out, fun _ _ => NB380_378.out, fun _ _ => NB378_380.out, fun _ _ => NB380_379.out, fun _ _ => NB379_380.out, fun _ h1_ => absurd ((hon 12 (by kernel_rfl)).symm.trans h1_) (by decide), fun _ => GW378.out, fun _ => GE378.out, fun _ => NB371_378.out, fun _ => NB378_371.out, fun _ h1_ => absurd ((up_self b 13).symm.trans h1_) (by decide), fun _ => GW379.out, fun _ => GE379.out, fun _ => NB371_379.out, fun _ => NB379_371.out, fun _ _ => (bq1 BK380 NB380_379), fun _ => GW380.out, fun _ => GE380.out, fun _ => NB371_380.out, fun _ => NB380_371.out, fun _ => (bq1 BK378 NB378_379), fun _ => (bq0 BK379), fun h0_ => absurd ((hoff 14 (by kernel_rfl)).symm.trans h0_) (by decide), Q_X9_, Q_X10_, Q_X11_⟩
     refine steps_cons ?_ ?_
     ·rintro b a w' ⟨gb378, gb379, gb380, m9_, m10_, m11_, ha, Q_HO_3, Q_BK371, Q_HB, Q_NB379_378, Q_NB378_379, Q_NB380_378, Q_NB378_380, Q_NB380_379, Q_NB379_380, Q_BK378, Q_GW378, Q_GE378, Q_NB371_378, Q_NB378_371, Q_BK379, Q_GW379, Q_GE379, Q_NB371_379, Q_NB379_371, Q_BK380, Q_GW380, Q_GE380, Q_NB371_380, Q_NB380_371, Q_BK378_e12, Q_BK379_e13, Q_BK380_e14, Q_X9_, Q_X10_, Q_X11_⟩ hb_ hon hoff
      refine ⟨_, rfl, fun K hK => ?_⟩
      have e8 : a.tmps[8]? = some (m11_) := by rw [ha]; exact putSel_on (e := (11, 8, m11_)) 11 rfl rfl (hon 11 (by kernel_rfl)) rfl
      rw [Q_X11_ (hon 11 (by kernel_rfl))] at e8
      have e36 : a.tmps[36]? = some (.agg #[.int .i64 t376, .int .i64 t377]) := by rw [ha]; exact putSel_on (e := (8, 36, .agg #[.int .i64 t376, .int .i64 t377])) 8 rfl rfl (hon 8 (by kernel_rfl)) rfl
      replace ha := Aside0.mk ha
      have HO_3 := Aside0.mk Q_HO_3
      have BK371 := Aside0.mk Q_BK371
      have HB := Aside0.mk Q_HB
      have NB379_378 := asd (Q_NB379_378 (hon 9 (by kernel_rfl)) (hon 10 (by kernel_rfl)))
      have NB378_379 := asd (Q_NB378_379 (hon 9 (by kernel_rfl)) (hon 10 (by kernel_rfl)))
      have NB380_378 := asd (Q_NB380_378 (hon 9 (by kernel_rfl)) (hon 11 (by kernel_rfl)))
      have NB378_380 := asd (Q_NB378_380 (hon 9 (by kernel_rfl)) (hon 11 (by kernel_rfl)))
      have NB380_379 := asd (Q_NB380_379 (hon 10 (by kernel_rfl)) (hon 11 (by kernel_rfl)))
      have NB379_380 := asd (Q_NB379_380 (hon 10 (by kernel_rfl)) (hon 11 (by kernel_rfl)))
      have GW378 := asd (Q_GW378 (hon 9 (by kernel_rfl)))
      have GE378 := asd (Q_GE378 (hon 9 (by kernel_rfl)))
      have NB371_378 := asd (Q_NB371_378 (hon 9 (by kernel_rfl)))
      have NB378_371 := asd (Q_NB378_371 (hon 9 (by kernel_rfl)))
      have GW379 := asd (Q_GW379 (hon 10 (by kernel_rfl)))
      have GE379 := asd (Q_GE379 (hon 10 (by kernel_rfl)))
      have NB371_379 := asd (Q_NB371_379 (hon 10 (by kernel_rfl)))
      have NB379_371 := asd (Q_NB379_371 (hon 10 (by kernel_rfl)))
      have BK380 := asd (Q_BK380 (hon 11 (by kernel_rfl)) hb_)
      have GW380 := asd (Q_GW380 (hon 11 (by kernel_rfl)))
      have GE380 := asd (Q_GE380 (hon 11 (by kernel_rfl)))
      have NB371_380 := asd (Q_NB371_380 (hon 11 (by kernel_rfl)))
      have NB380_371 := asd (Q_NB380_371 (hon 11 (by kernel_rfl)))
      have BK378 := asd (Q_BK378_e12 (hon 12 (by kernel_rfl)))
      have BK379 := asd (Q_BK379_e13 (hon 13 (by kernel_rfl)))
      have hs30 : w'.cell? ⟨gb380, 0, none⟩ = some (.int .i64 0) := bcl BK380 0
      have hfs30 := blk_frozen BK380.out 0
      have hns30_0 := NB371_380.out
      have hns30_1 := NB378_380.out
      have hns30_2 := NB379_380.out
      have hms30_0 := NB380_371.out
      have hms30_1 := NB380_378.out
      have hms30_2 := NB380_379.out
      have hs31 : w'.cell? ⟨gb380, 1, none⟩ = some (.int .i64 0) := bcl BK380 1
      have hfs31 := blk_frozen BK380.out 1
      have hns31_0 := NB371_380.out
      have hns31_1 := NB378_380.out
      have hns31_2 := NB379_380.out
      have hms31_0 := NB380_371.out
      have hms31_1 := NB380_378.out
      have hms31_2 := NB380_379.out
      refine skip_ (w1 := ?_) (by rfl) rfl ?_ ?_
      rotate_left
      ·go_simp
       rfl
      refine hK.out _ _ ⟨gb378, gb379, gb380, m9_, m10_, m11_, (by rw [ha.out]; exact putSel_none (v := undef) rfl), (by (with_reducible repeat (first | apply Kd.R_alloc | apply Kd.R_drewN | apply Kd.R_drew)); exact Kd.R_mono (rw2 (Kd.R_types HO_3.out BK380.out (by decide))) (fun _ hk => hk.1)), (bq1 BK371 NB371_380), (bbw4 HB GE371 GE378 GE379 GE380), fun _ _ => NB379_378.out, fun _ _ => NB378_379.out, fun _ _ => NB380_378.out, fun _ _ => NB378_380.out, fun _ _ => NB380_379.out, fun _ _ => NB379_380.out, fun _ h1_ => absurd ((hon 12 (by kernel_rfl)).symm.trans h1_) (by decide), fun _ => GW378.out, fun _ => GE378.out, fun _ => NB371_378.out, fun _ => NB378_371.out, fun _ h1_ => absurd ((hon 13 (by kernel_rfl)).symm.trans h1_) (by decide), fun _ => GW379.out, fun _ => GE379.out, fun _ => NB371_379.out, fun _ => NB379_371.out, fun _ h1_ => absurd ((up_self b 14).symm.trans h1_) (by decide), fun _ => GW380.out, fun _ => GE380.out, fun _ => NB371_380.out, fun _ => NB380_371.out, fun _ => (bq1 BK378 NB378_380), fun _ => (bq1 BK379 NB379_380), fun _ => (bq0 BK380), Q_X9_, Q_X10_, Q_X11_⟩
     exact steps_nil
    rintro b a w31 hall ⟨gb378, gb379, gb380, m9_, m10_, m11_, ha, Q_HO_3, Q_BK371, Q_HB, Q_NB379_378, Q_NB378_379, Q_NB380_378, Q_NB378_380, Q_NB380_379, Q_NB379_380, Q_BK378, Q_GW378, Q_GE378, Q_NB371_378, Q_NB378_371, Q_BK379, Q_GW379, Q_GE379, Q_NB371_379, Q_NB379_371, Q_BK380, Q_GW380, Q_GE380, Q_NB371_380, Q_NB380_371, Q_BK378_e12, Q_BK379_e13, Q_BK380_e14, Q_X9_, Q_X10_, Q_X11_⟩
    clear BK371 HB HO_3
    have hb0_ := hall 0 (by kernel_rfl)
    have hb1_ := hall 1 (by kernel_rfl)
    have hb2_ := hall 2 (by kernel_rfl)
    have hb3_ := hall 3 (by kernel_rfl)
    have hb4_ := hall 4 (by kernel_rfl)
    have hb5_ := hall 5 (by kernel_rfl)
    have hb6_ := hall 6 (by kernel_rfl)
    have hb7_ := hall 7 (by kernel_rfl)
    have hb8_ := hall 8 (by kernel_rfl)
    have hb9_ := hall 9 (by kernel_rfl)
    have hb10_ := hall 10 (by kernel_rfl)
    have hb11_ := hall 11 (by kernel_rfl)
    have hb12_ := hall 12 (by kernel_rfl)
    have hb13_ := hall 13 (by kernel_rfl)
    have hb14_ := hall 14 (by kernel_rfl)
    subst ha
    obtain rfl := Q_X9_ hb9_
    obtain rfl := Q_X10_ hb10_
    obtain rfl := Q_X11_ hb11_
    simp only [putSel, hb0_, hb1_, hb2_, hb3_, hb4_, hb5_, hb6_, hb7_, hb8_, hb9_, hb10_, hb11_, hb12_, hb13_, hb14_, if_true, Act.put, sA, sB, sC]
    have HO_3 := Aside0.mk Q_HO_3
    clear Q_HO_3
    have BK371 := Aside0.mk Q_BK371
    clear Q_BK371
    have HB := Aside0.mk Q_HB
    clear Q_HB
    have NB379_378 := asd (Q_NB379_378 hb9_ hb10_)
    clear Q_NB379_378
    have NB378_379 := asd (Q_NB378_379 hb9_ hb10_)
    clear Q_NB378_379
    have NB380_378 := asd (Q_NB380_378 hb9_ hb11_)
    clear Q_NB380_378
    have NB378_380 := asd (Q_NB378_380 hb9_ hb11_)
    clear Q_NB378_380
    have NB380_379 := asd (Q_NB380_379 hb10_ hb11_)
    clear Q_NB380_379
    have NB379_380 := asd (Q_NB379_380 hb10_ hb11_)
    clear Q_NB379_380
    clear Q_BK378
    have GW378 := asd (Q_GW378 hb9_)
    clear Q_GW378
    have GE378 := asd (Q_GE378 hb9_)
    clear Q_GE378
    have NB371_378 := asd (Q_NB371_378 hb9_)
    clear Q_NB371_378
    have NB378_371 := asd (Q_NB378_371 hb9_)
    clear Q_NB378_371
    clear Q_BK379
    have GW379 := asd (Q_GW379 hb10_)
    clear Q_GW379
    have GE379 := asd (Q_GE379 hb10_)
    clear Q_GE379
    have NB371_379 := asd (Q_NB371_379 hb10_)
    clear Q_NB371_379
    have NB379_371 := asd (Q_NB379_371 hb10_)
    clear Q_NB379_371
    clear Q_BK380
    have GW380 := asd (Q_GW380 hb11_)
    clear Q_GW380
    have GE380 := asd (Q_GE380 hb11_)
    clear Q_GE380
    have NB371_380 := asd (Q_NB371_380 hb11_)
    clear Q_NB371_380
    have NB380_371 := asd (Q_NB380_371 hb11_)
    clear Q_NB380_371
    have BK378 := asd (Q_BK378_e12 hb12_)
    clear Q_BK378_e12
    have BK379 := asd (Q_BK379_e13 hb13_)
    clear Q_BK379_e13
    have BK380 := asd (Q_BK380_e14 hb14_)
    clear Q_BK380_e14
    clear hall hb0_ hb1_ hb2_ hb3_ hb4_ hb5_ hb6_ hb7_ hb8_ hb9_ hb10_ hb11_ hb12_ hb13_ hb14_
    have hnb32 := NB378_371.out
    have hnc32 := NB371_378.out
    have hnb33 := NB378_379.out
    have hnc33 := NB379_378.out
    have hnb34 := NB378_380.out
    have hnc34 := NB380_378.out
    obtain ⟨hcz35_0, hcz35_1, hfz35_0, hfz35_1⟩ := bz2 BK378
    have H := Hq_.out
    clear Hq_
    obtain ⟨t381, A8, H⟩ := ob H
    try dsimp only at H
    by_cases c9 : t381 = 1
    rw [if_pos c9] at H
    have c9b0 : (t381 == 1) = true := beq_iff_eq.mpr c9
    have c9b1 : (t381 != 1) = false := bne_eq_false_iff_eq.mpr c9
    clear c9
    obtain ⟨t382, A10, H⟩ := ob H
    try dsimp only at H
    by_cases c11 : t382 = 1
    rw [if_pos c11] at H
    have c11b0 : (t382 == 1) = true := beq_iff_eq.mpr c11
    have c11b1 : (t382 != 1) = false := bne_eq_false_iff_eq.mpr c11
    clear c11
    obtain ⟨t383, A12, H⟩ := ob H
    try dsimp only at H
    by_cases c13 : t383 = (wrap64 (2 + a0))
    rw [if_pos c13] at H
    have c13b0 : (t383 == (wrap64 (2 + a0))) = true := beq_iff_eq.mpr c13
    have c13b1 : (t383 != (wrap64 (2 + a0))) = false := bne_eq_false_iff_eq.mpr c13
    clear c13
    by_cases c14 : x3_1.length < 4398046511104
    rw [if_pos c14] at H
    have LMc14 := Aside0.mk c14
    clear c14
    obtain ⟨y384, hy384⟩ : ∃ y_ : List (S44), y_ = (x3_1 ++ [(⟨wrap64 ((wrap64 (Int.tdiv x10_1 27)) - 1), wrap64 ((Int.tmod (wrap64 (Int.tdiv x10_1 9)) 3) - 1), wrap64 ((Int.tmod (wrap64 (Int.tdiv x10_1 3)) 3) - 1), wrap64 ((Int.tmod x10_1 3) - 1)⟩ : S44)]) := ⟨_, rfl⟩
    replace H : (impl_pointMats.l0 k1 a0 y384 (wrap64 (x10_1 + 1))) = some r := by first | (rw [hy384]; with_reducible exact H) | (have H2_ := (Option.bind_some _ _).symm.trans H; rw [hy384]; with_reducible exact H2_) | (have H2_ := (Option.bind_some _ _).symm.trans H; with_reducible exact H2_) | with_reducible exact H | (rw [hy384]; exact H) | exact H
    have Ny384 := Aside0.mk hy384
    clear hy384
    have H' := Aside0.mk H
    clear H
    rotate_left
    ·rw [if_neg c14] at H
     exact absurd H (by simp)
    rw [if_neg c13] at H
    have c13b0 : (t383 == (wrap64 (2 + a0))) = false := beq_eq_false_iff_ne.mpr c13
    have c13b1 : (t383 != (wrap64 (2 + a0))) = true := bne_iff_ne.mpr c13
    have H' := Aside0.mk H
    clear H
    rotate_left
    rw [if_neg c11] at H
    have c11b0 : (t382 == 1) = false := beq_eq_false_iff_ne.mpr c11
    have c11b1 : (t382 != 1) = true := bne_iff_ne.mpr c11
    have H' := Aside0.mk H
    clear H
    rotate_left
    rw [if_neg c9] at H
    have c9b0 : (t381 == 1) = false := beq_eq_false_iff_ne.mpr c9
    have c9b1 : (t381 != 1) = true := bne_iff_ne.mpr c9
    have H' := Aside0.mk H
    clear H
    rotate_left
    try go_wp2_with (first | ((with_reducible refine gate_callee (f := 109) rfl ?_); refine gl 39 Try.func109 #[.int .i64 a0, .agg #[.int .i64 t372, .int .i64 t373]] ?_; (with_reducible refine (impl_norm.calls _ _ _ _ _ A8.out).mono ?_); rintro e w36 ⟨rfl, hb⟩; refine ⟨_, rfl, ?_⟩; replace HO_3 := asd (Kd.R_below (kr HO_3) hb); replace BK371 := bB BK371 hb; replace BK378 := bB BK378 hb; replace BK379 := bB BK379 hb; replace BK380 := bB BK380 hb; replace HB := bS4 HB GE371 GE378 GE379 GE380 hb; (try clear hb); have hnb37 := NB379_371.out; have hnc37 := NB371_379.out; have hnb38 := NB379_380.out; have hnc38 := NB380_379.out; obtain ⟨hcz39_0, hcz39_1, hfz39_0, hfz39_1⟩ := bz2 BK379) | (go_at_call 109; (with_reducible refine (impl_norm.calls _ _ _ _ _ A10.out).mono ?_); rintro e w40 ⟨rfl, hb⟩; replace HO_3 := asd (Kd.R_below (kr HO_3) hb); replace BK371 := bB BK371 hb; replace BK378 := bB BK378 hb; replace BK379 := bB BK379 hb; replace BK380 := bB BK380 hb; replace HB := bS4 HB GE371 GE378 GE379 GE380 hb; (try clear hb); have hnb41 := NB380_371.out; have hnc41 := NB371_380.out; obtain ⟨hcz42_0, hcz42_1, hfz42_0, hfz42_1⟩ := bz2 BK380) | (go_at_call 109; (with_reducible refine (impl_norm.calls _ _ _ _ _ A12.out).mono ?_); rintro e w43 ⟨rfl, hb⟩; replace HO_3 := asd (Kd.R_below (kr HO_3) hb); replace BK371 := bB BK371 hb; replace BK378 := bB BK378 hb; replace BK379 := bB BK379 hb; replace BK380 := bB BK380 hb; replace HB := bS4 HB GE371 GE378 GE379 GE380 hb; (try clear hb); obtain ⟨hcz44_0, hcz44_1, hcz44_2, hcz44_3, hfz44_0, hfz44_1, hfz44_2, hfz44_3⟩ := bz4 BK371) | ((with_reducible refine gate_builtin (b := .append) (xs := #[.tmp 55, .tmp 57]) rfl ?_); at_builtin; refine Kd.R_append k44 (w0 := w) w.heap.size rfl (.tmp 55) (.tmp 57) 103 44 (.agg #[(.int .i64 0), (.int .i64 0), (.int .i64 0), (.int .i64 0)]) 32 rfl Try.underlying103 info44 rfl (by decide) (by omega) u3 x3_1 (⟨wrap64 ((wrap64 (Int.tdiv x10_1 27)) - 1), wrap64 ((Int.tmod (wrap64 (Int.tdiv x10_1 9)) 3) - 1), wrap64 ((Int.tmod (wrap64 (Int.tdiv x10_1 3)) 3) - 1), wrap64 ((Int.tmod x10_1 3) - 1)⟩ : S44) [.int .i64 (wrap64 ((wrap64 (Int.tdiv x10_1 27)) - 1)), .int .i64 (wrap64 ((Int.tmod (wrap64 (Int.tdiv x10_1 9)) 3) - 1)), .int .i64 (wrap64 ((Int.tmod (wrap64 (Int.tdiv x10_1 3)) 3) - 1)), .int .i64 (wrap64 ((Int.tmod x10_1 3) - 1))] (fun k_ => k_ ≠ gb371) (fun _ => False) rfl rfl ?aP (fun _ hk => hk.elim) ?aF ?aO ?aB ?aS ?aL ?_; (case aP => exact k44_mkM _ _ _ (⟨wrap64 ((wrap64 (Int.tdiv x10_1 27)) - 1), wrap64 ((Int.tmod (wrap64 (Int.tdiv x10_1 9)) 3) - 1), wrap64 ((Int.tmod (wrap64 (Int.tdiv x10_1 3)) 3) - 1), wrap64 ((Int.tmod x10_1 3) - 1)⟩ : S44)); (case aB => exact (bbw4 HB GE371 GE378 GE379 GE380)); (case aF => exact (fun k_ hk => Kd.freshB (g := gb371) (o := .cells #[.int .i64 (wrap64 ((wrap64 (Int.tdiv x10_1 27)) - 1)), .int .i64 (wrap64 ((Int.tmod (wrap64 (Int.tdiv x10_1 9)) 3) - 1)), .int .i64 (wrap64 ((Int.tmod (wrap64 (Int.tdiv x10_1 3)) 3) - 1)), .int .i64 (wrap64 ((Int.tmod x10_1 3) - 1))] 44 (0, 0)) (bkp BK371) k_ hk)); (case aO => exact (kr HO_3)); (case aS => exact (bsz4 HB GE371 GE378 GE379 GE380)); (case aL => have := LMc14.out; omega); intro v385 w45 ho hb hg hat; rw [← Ny384.out] at ho; have n0_ := asd (blk_grown (g := gb371) (o := .cells #[.int .i64 (wrap64 ((wrap64 (Int.tdiv x10_1 27)) - 1)), .int .i64 (wrap64 ((Int.tmod (wrap64 (Int.tdiv x10_1 9)) 3) - 1)), .int .i64 (wrap64 ((Int.tmod (wrap64 (Int.tdiv x10_1 3)) 3) - 1)), .int .i64 (wrap64 ((Int.tmod x10_1 3) - 1))] 44 (0, 0)) (bkp BK371) hg (Kd.R_away HO_3.out (fun _ hk => hk))); have n1_ := asd (blk_grown (g := gb378) (o := .cells #[.int .i64 t372, .int .i64 t373] 46 (0, 0)) (bkp BK378) hg (Kd.R_ne HO_3.out BK378.out (by decide))); have n2_ := asd (blk_grown (g := gb379) (o := .cells #[.int .i64 t374, .int .i64 t375] 46 (0, 0)) (bkp BK379) hg (Kd.R_ne HO_3.out BK379.out (by decide))); have n3_ := asd (blk_grown (g := gb380) (o := .cells #[.int .i64 t376, .int .i64 t377] 46 (0, 0)) (bkp BK380) hg (Kd.R_ne HO_3.out BK380.out (by decide))); have n4_ := asd (hb); have n5_ := asd (ho); clear BK371; clear BK378; clear BK379; clear BK380; clear HB; clear HO_3; have BK371 := n0_; have BK378 := n1_; have BK379 := n2_; have BK380 := n3_; have HB := n4_; have HO386 := n5_; clear n0_ n1_ n2_ n3_ n4_ n5_; clear ho hb hg hat))
    rotate_left
    try go_wp2_with (first | ((with_reducible refine gate_callee (f := 109) rfl ?_); refine gl 39 Try.func109 #[.int .i64 a0, .agg #[.int .i64 t372, .int .i64 t373]] ?_; (with_reducible refine (impl_norm.calls _ _ _ _ _ A8.out).mono ?_); rintro e w67 ⟨rfl, hb⟩; refine ⟨_, rfl, ?_⟩; replace HO_3 := asd (Kd.R_below (kr HO_3) hb); replace BK371 := bB BK371 hb; replace BK378 := bB BK378 hb; replace BK379 := bB BK379 hb; replace BK380 := bB BK380 hb; replace HB := bS4 HB GE371 GE378 GE379 GE380 hb; (try clear hb); have hnb68 := NB379_371.out; have hnc68 := NB371_379.out; have hnb69 := NB379_380.out; have hnc69 := NB380_379.out; obtain ⟨hcz70_0, hcz70_1, hfz70_0, hfz70_1⟩ := bz2 BK379) | (go_at_call 109; (with_reducible refine (impl_norm.calls _ _ _ _ _ A10.out).mono ?_); rintro e w71 ⟨rfl, hb⟩; replace HO_3 := asd (Kd.R_below (kr HO_3) hb); replace BK371 := bB BK371 hb; replace BK378 := bB BK378 hb; replace BK379 := bB BK379 hb; replace BK380 := bB BK380 hb; replace HB := bS4 HB GE371 GE378 GE379 GE380 hb; (try clear hb); have hnb72 := NB380_371.out; have hnc72 := NB371_380.out; obtain ⟨hcz73_0, hcz73_1, hfz73_0, hfz73_1⟩ := bz2 BK380) | (go_at_call 109; (with_reducible refine (impl_norm.calls _ _ _ _ _ A12.out).mono ?_); rintro e w74 ⟨rfl, hb⟩; replace HO_3 := asd (Kd.R_below (kr HO_3) hb); replace BK371 := bB BK371 hb; replace BK378 := bB BK378 hb; replace BK379 := bB BK379 hb; replace BK380 := bB BK380 hb; replace HB := bS4 HB GE371 GE378 GE379 GE380 hb; (try clear hb)))
    rotate_left
    try go_wp2_with (first | ((with_reducible refine gate_callee (f := 109) rfl ?_); refine gl 39 Try.func109 #[.int .i64 a0, .agg #[.int .i64 t372, .int .i64 t373]] ?_; (with_reducible refine (impl_norm.calls _ _ _ _ _ A8.out).mono ?_); rintro e w96 ⟨rfl, hb⟩; refine ⟨_, rfl, ?_⟩; replace HO_3 := asd (Kd.R_below (kr HO_3) hb); replace BK371 := bB BK371 hb; replace BK378 := bB BK378 hb; replace BK379 := bB BK379 hb; replace BK380 := bB BK380 hb; replace HB := bS4 HB GE371 GE378 GE379 GE380 hb; (try clear hb); have hnb97 := NB379_371.out; have hnc97 := NB371_379.out; have hnb98 := NB379_380.out; have hnc98 := NB380_379.out; obtain ⟨hcz99_0, hcz99_1, hfz99_0, hfz99_1⟩ := bz2 BK379) | (go_at_call 109; (with_reducible refine (impl_norm.calls _ _ _ _ _ A10.out).mono ?_); rintro e w100 ⟨rfl, hb⟩; replace HO_3 := asd (Kd.R_below (kr HO_3) hb); replace BK371 := bB BK371 hb; replace BK378 := bB BK378 hb; replace BK379 := bB BK379 hb; replace BK380 := bB BK380 hb; replace HB := bS4 HB GE371 GE378 GE379 GE380 hb; (try clear hb)))
    rotate_left
    try go_wp2_with (first | ((with_reducible refine gate_callee (f := 109) rfl ?_); refine gl 39 Try.func109 #[.int .i64 a0, .agg #[.int .i64 t372, .int .i64 t373]] ?_; (with_reducible refine (impl_norm.calls _ _ _ _ _ A8.out).mono ?_); rintro e w122 ⟨rfl, hb⟩; refine ⟨_, rfl, ?_⟩; replace HO_3 := asd (Kd.R_below (kr HO_3) hb); replace BK371 := bB BK371 hb; replace BK378 := bB BK378 hb; replace BK379 := bB BK379 hb; replace BK380 := bB BK380 hb; replace HB := bS4 HB GE371 GE378 GE379 GE380 hb; (try clear hb)))
    rotate_left
    all_goals
     go_roundg k1
     case measure => have := HK1.out; omega
    ·case rel => exact ⟨(y384), (wrap64 (x10_1 + 1)), (by first | rfl | (simp; done) | (simp [*]; done)), H', ⟨by have := HK1.out; omega⟩, ⟨by (with_reducible repeat (first | apply Kd.R_alloc | apply Kd.R_drewN | apply Kd.R_drew)); exact Kd.R_mono HO386.out (fun _ hk => trivial)⟩, ⟨bbw4 HB GE371 GE378 GE379 GE380⟩⟩
    rotate_left 3
    all_goals
     case rel => exact ⟨(x3_1), (wrap64 (x10_1 + 1)), (by first | rfl | (simp; done) | (simp [*]; done)), H', ⟨by have := HK1.out; omega⟩, ⟨by (with_reducible repeat (first | apply Kd.R_alloc | apply Kd.R_drewN | apply Kd.R_drew)); exact Kd.R_mono HO_3.out (fun _ hk => trivial)⟩, ⟨bbw4 HB GE371 GE378 GE379 GE380⟩⟩
   ·rw [if_neg c4] at H
    have c4b0 := decide_eq_false c4
    clear c4
    obtain rfl := Option.some.inj H
    go_wp2
    go_ret
    exact ⟨_, by first | rfl | (simp [errW_none, errW_some] <;> rfl) | (simp [*, errW_none, errW_some] <;> rfl), by (with_reducible repeat (first | apply Kd.R_alloc | apply Kd.R_drewN | apply Kd.R_drew)); exact HO_3.out, bbw0 HB⟩
/-! ### impl_Lattice_has: function 102 -/
def impl_Lattice_has.f (a0_0 : Int) (a0_1 : Int) (a0_2 : Int) (a1_0 : Int) (a1_1 : Int) : Option (Bool) := (impl_Lattice_reduce.f a0_0 a0_1 a0_2 a1_0 a1_1).bind fun bt389 => (some (bt389.1 == 0 && (bt389.2 == 0)))
set_option maxHeartbeats 8000000 in
set_option maxRecDepth 100000 in
theorem impl_Lattice_has.calls (a0_0 : Int) (a0_1 : Int) (a0_2 : Int) (a1_0 : Int) (a1_1 : Int) (r : Bool) (w : World) (h : impl_Lattice_has.f a0_0 a0_1 a0_2 a1_0 a1_1 = some r) :
  Calls Try.prog 102 #[.agg #[.int .i64 a0_0, .int .i64 a0_1, .int .i64 a0_2], .agg #[.int .i64 a1_0, .int .i64 a1_1]] w fun e w' => e = .returned (.bool r) ∧ Below w.heap.size w w' := by
 have hu29 := Try.underlying29
 have hu46 := Try.underlying46
 have HB := asd (Below.refl w.heap.size w)
 have H : ((impl_Lattice_reduce.f a0_0 a0_1 a0_2 a1_0 a1_1).bind fun bt389 => (some (bt389.1 == 0 && (bt389.2 == 0)))) = some r := h
 clear h
 obtain ⟨⟨t389, t390⟩, A3, H⟩ := ob H
 try dsimp only at H
 obtain rfl := Option.some.inj H
 go_enter Try.func102, Try.ntmps102
 go_wp2_with (first | ((with_reducible refine gd 2 rfl ?_); refine bx #[.int .i64 a0_0, .int .i64 a0_1, .int .i64 a0_2] 29 ?_; intro gb387 hg w4 BK387 hb; have GE387 := ngw0 hg HB; replace HB := bS0 HB hb; clear hb hg) | ((with_reducible refine gd 3 rfl ?_); refine bx #[.int .i64 a1_0, .int .i64 a1_1] 46 ?_; intro gb388 hg w5 BK388 hb; have GE388 := ngw1 hg HB GE387; replace HB := bS1 HB GE387 hb; have NB387_388 := nlt hg BK387; have NB388_387 := nsy (nlt hg BK387); replace BK387 := bB BK387 hb; clear hb hg; have hnb6 := NB387_388.out; have hnc6 := NB388_387.out; obtain ⟨hcz7_0, hcz7_1, hcz7_2, hfz7_0, hfz7_1, hfz7_2⟩ := bz3 BK387; obtain ⟨hcz8_0, hcz8_1, hfz8_0, hfz8_1⟩ := bz2 BK388) | ((with_reducible refine gate_callee (f := 40) rfl ?_); refine gl 7 Try.func40 #[.agg #[.int .i64 a0_0, .int .i64 a0_1, .int .i64 a0_2], .agg #[.int .i64 a1_0, .int .i64 a1_1]] ?_; (with_reducible refine (impl_Lattice_reduce.calls _ _ _ _ _ _ _ _ A3.out).mono ?_); rintro e w9 ⟨rfl, hb⟩; refine ⟨_, rfl, ?_⟩; replace BK387 := bB BK387 hb; replace BK388 := bB BK388 hb; replace HB := bS2 HB GE387 GE388 hb; (try clear hb)))
 go_ret
 exact er (bbw2 HB GE387 GE388)

end Go.Proofs.Ytilbokbfcmeleaa.PA
