/- Walks written by program: each Go function that the law reaches comes to the plain function beside it. -/
import Derived.Test.YtedmadofpdkekaaGreatPAx0
import Derived.Test.YtedmadofpdkekaaGreatPAx2
import Derived.Test.YtedmadofpdkekaaGreatPAx4
import Derived.Test.YtedmadofpdkekaaGreatPAx9
import Derived.Test.YtedmadofpdkekaaGreatPAx10
import Derived.Test.YtedmadofpdkekaaGreatPAx11
import Derived.Test.YtedmadofpdkekaaGreatPAx14
import Derived.Test.YtedmadofpdkekaaGreatPAx17
namespace Go.Proofs.YtedmadofpdkekaaGreat.PA
open Go.RowKit Go.Proofs.YtedmadofpdkekaaGreatW.PrintWords Go.Proofs.YtedmadofpdkekaaGreatW.PrintLast Go.Proofs.YtedmadofpdkekaaGreatW.PrintMore
attribute [local go_sem] max2_int min2_int max_two min_two max_three min_three max_four min_four   -- for this text's walks alone
set_option linter.unusedVariables false
set_option linter.unusedSimpArgs false

/-! ### impl_Motion_times: function 76 -/
def impl_Motion_times.f (a0_0 : Int) (a0_1 : Int) (a0_2 : Int) (a0_3 : Int) (a0_4 : Int) (a0_5 : Int) (a1_0 : Int) (a1_1 : Int) (a1_2 : Int) (a1_3 : Int) (a1_4 : Int) (a1_5 : Int) : Option (Int × Int × Int × Int × Int × Int) := (impl_Mat_times.f a0_0 a0_1 a0_2 a0_3 a1_0 a1_1 a1_2 a1_3).bind fun bt713 => ((impl_Mat_apply.f a0_0 a0_1 a0_2 a0_3 a1_4 a1_5).bind fun bt717 => ((impl_Vec_add.f bt717.1 bt717.2 a0_4 a0_5).bind fun bt719 => (some (bt713.1, bt713.2.1, bt713.2.2.1, bt713.2.2.2, bt719.1, bt719.2))))
def impl_Motion_times.T1 : Bool × List (List Nat × List Nat) := (true, [([], []), ([0], [0]), ([], []), ([2], [2]), ([1, 3], [1, 3]), ([], []), ([5], [5]), ([], []), ([7], [7]), ([6, 8, 4], [6, 8]), ([], []), ([10], [10]), ([9, 11, 9], [9, 11]), ([4, 12], [4, 12]), ([13, 12, 0, 1, 2, 3, 4, 5, 6, 7, 8, 9, 10, 11, 12, 13], [13])])
def impl_Motion_times.B1 : List Nat := [0, 1, 0, 4, 15, 0, 32, 0, 128, 511, 0, 1024, 4095, 8191, 16383]
theorem impl_Motion_times.tab1 : rtab .any (opsOf Tryz.f76 1) = impl_Motion_times.T1 := by kernel_rfl
theorem impl_Motion_times.bits1 : waitsOk impl_Motion_times.T1.2 impl_Motion_times.B1 = true := by kernel_rfl
set_option maxHeartbeats 8000000 in
set_option maxRecDepth 100000 in
theorem impl_Motion_times.calls (a0_0 : Int) (a0_1 : Int) (a0_2 : Int) (a0_3 : Int) (a0_4 : Int) (a0_5 : Int) (a1_0 : Int) (a1_1 : Int) (a1_2 : Int) (a1_3 : Int) (a1_4 : Int) (a1_5 : Int) (r1 : Int) (r2 : Int) (r3 : Int) (r4 : Int) (r5 : Int) (r6 : Int) (w : World) (h : impl_Motion_times.f a0_0 a0_1 a0_2 a0_3 a0_4 a0_5 a1_0 a1_1 a1_2 a1_3 a1_4 a1_5 = some (r1, r2, r3, r4, r5, r6)) :
  Calls Tryz.prog 76 #[.agg #[.int .i64 a0_0, .int .i64 a0_1, .int .i64 a0_2, .int .i64 a0_3, .int .i64 a0_4, .int .i64 a0_5], .agg #[.int .i64 a1_0, .int .i64 a1_1, .int .i64 a1_2, .int .i64 a1_3, .int .i64 a1_4, .int .i64 a1_5]] w fun e w' => e = .returned (.agg #[.int .i64 r1, .int .i64 r2, .int .i64 r3, .int .i64 r4, .int .i64 r5, .int .i64 r6]) ∧ Below w.heap.size w w' := by
 have hu37 := Tryz.underlying37
 have hu27 := Tryz.underlying27
 have hu31 := Tryz.underlying31
 have HB := asd (Below.refl w.heap.size w)
 have H : ((impl_Mat_times.f a0_0 a0_1 a0_2 a0_3 a1_0 a1_1 a1_2 a1_3).bind fun bt713 => ((impl_Mat_apply.f a0_0 a0_1 a0_2 a0_3 a1_4 a1_5).bind fun bt717 => ((impl_Vec_add.f bt717.1 bt717.2 a0_4 a0_5).bind fun bt719 => (some (bt713.1, bt713.2.1, bt713.2.2.1, bt713.2.2.2, bt719.1, bt719.2))))) = some (r1, r2, r3, r4, r5, r6) := h
 clear h
 obtain ⟨⟨t713, t714, t715, t716⟩, A3, H⟩ := ob H
 try dsimp only at H
 obtain ⟨⟨t717, t718⟩, A4, H⟩ := ob H
 try dsimp only at H
 obtain ⟨⟨t719, t720⟩, A5, H⟩ := ob H
 try dsimp only at H
 simp only [Option.some.injEq, Prod.mk.injEq] at H
 obtain ⟨rfl, rfl, rfl, rfl, rfl, rfl⟩ := H
 go_enter Tryz.func76, Tryz.ntmps76
 try go_wp2_with (first | ((with_reducible refine gd 2 rfl ?_); refine bx #[.int .i64 a0_0, .int .i64 a0_1, .int .i64 a0_2, .int .i64 a0_3, .int .i64 a0_4, .int .i64 a0_5] 37 ?_; intro gb710 hg w6 BK710 hb; have GE710 := ngw0 hg HB; replace HB := bS0 HB hb; clear hb hg) | ((with_reducible refine gd 3 rfl ?_); refine bx #[.int .i64 a1_0, .int .i64 a1_1, .int .i64 a1_2, .int .i64 a1_3, .int .i64 a1_4, .int .i64 a1_5] 37 ?_; intro gb711 hg w7 BK711 hb; have GE711 := ngw1 hg HB GE710; replace HB := bS1 HB GE710 hb; have NB710_711 := nlt hg BK710; have NB711_710 := nsy (nlt hg BK710); replace BK710 := bB BK710 hb; clear hb hg) | ((with_reducible refine gd 4 rfl ?_); refine bx #[.int .i64 0, .int .i64 0, .int .i64 0, .int .i64 0, .int .i64 0, .int .i64 0] 37 ?_; intro gb712 hg w8 BK712 hb; have GE712 := ngw2 hg HB GE710 GE711; replace HB := bS2 HB GE710 GE711 hb; have NB710_712 := nlt hg BK710; have NB712_710 := nsy (nlt hg BK710); replace BK710 := bB BK710 hb; have NB711_712 := nlt hg BK711; have NB712_711 := nsy (nlt hg BK711); replace BK711 := bB BK711 hb; clear hb hg))
 replace BK710 := asd (blk_drew BK710.out)
 replace BK711 := asd (blk_drew BK711.out)
 replace BK712 := asd (blk_drew BK712.out)
 replace HB := asd (below_drew1 HB.out)
 refine sh 15 (cb6 BK710 (eb6 BK711)) (fun hHeld => ?_); refine with_tabW impl_Motion_times.tab1 impl_Motion_times.bits1 (fun HT_ HW_ => ?_)
 generalize w8.drew = w9 at BK710 BK711 BK712 HB hHeld ⊢
 refine pu 0 (some 5) (bT 15 1) HT_ ?_
 refine pu 2 (some 7) (bs 15 5) HT_ ?_
 refine pu 5 (some 10) (bs 15 37) HT_ ?_
 refine pu 7 (some 12) (bs 15 165) HT_ ?_
 refine pu 10 (some 15) (bs 15 1189) HT_ ?_
 refine ta 1 (some 6) (bs 15 1191) HT_ HW_ hHeld ?_
 refine ta 3 (some 8) (bs 15 1199) HT_ HW_ hHeld ?_
 refine ta 6 (some 11) (bs 15 1263) HT_ HW_ hHeld ?_
 refine ta 8 (some 13) (bs 15 1519) HT_ HW_ hHeld ?_
 refine ta 11 (some 16) (bs 15 3567) HT_ HW_ hHeld ?_
 refine ro 4 (some 9) (bs 15 3583) HT_ (fun K hK => ?_)
 refine gs Tryz.func104 #[.agg #[.int .i64 a0_0, .int .i64 a0_1, .int .i64 a0_2, .int .i64 a0_3], .agg #[.int .i64 a1_0, .int .i64 a1_1, .int .i64 a1_2, .int .i64 a1_3]] ?_
 with_reducible refine (impl_Mat_times.calls _ _ _ _ _ _ _ _ _ _ _ _ _ A3.out).mono ?_
 rintro e w10 ⟨rfl, hb⟩
 refine ⟨_, rfl, ?_⟩
 replace BK710 := bB BK710 hb
 replace BK711 := bB BK711 hb
 replace BK712 := bB BK712 hb
 replace HB := bS3 HB GE710 GE711 GE712 hb
 (try clear hb)
 (try clear hb2)
 (try clear hk)
 (try clear hi)
 refine hK.out _ _ (cb6 BK710 (eb6 BK711)).out (fun hHeld => ?_)
 clear hK K
 refine norm_ (a' := ?_) ?_ ?_
 rotate_left
 ·show Act.put _ (some 9) _ = _
  simp only [Act.put, sA, sB, sC, i64_w, i32_w]
  rfl
 refine ro 9 (some 14) (bT 15 12) HT_ (fun K hK => ?_)
 refine gs Tryz.func43 #[.agg #[.int .i64 a0_0, .int .i64 a0_1, .int .i64 a0_2, .int .i64 a0_3], .agg #[.int .i64 a1_4, .int .i64 a1_5]] ?_
 with_reducible refine (impl_Mat_apply.calls _ _ _ _ _ _ _ _ _ A4.out).mono ?_
 rintro e w11 ⟨rfl, hb⟩
 refine ⟨_, rfl, ?_⟩
 replace BK710 := bB BK710 hb
 replace BK711 := bB BK711 hb
 replace BK712 := bB BK712 hb
 replace HB := bS3 HB GE710 GE711 GE712 hb
 (try clear hb)
 (try clear hb2)
 (try clear hk)
 (try clear hi)
 refine hK.out _ _ (cb6 BK710 (eb6 BK711)).out (fun hHeld => ?_)
 clear hK K
 refine norm_ (a' := ?_) ?_ ?_
 rotate_left
 ·show Act.put _ (some 14) _ = _
  simp only [Act.put, sA, sB, sC, i64_w, i32_w]
  rfl
 refine ro 12 (some 17) (bT 15 13) HT_ (fun K hK => ?_)
 refine gs Tryz.func50 #[.agg #[.int .i64 t717, .int .i64 t718], .agg #[.int .i64 a0_4, .int .i64 a0_5]] ?_
 with_reducible refine (impl_Vec_add.calls _ _ _ _ _ _ _ A5.out).mono ?_
 rintro e w12 ⟨rfl, hb⟩
 refine ⟨_, rfl, ?_⟩
 replace BK710 := bB BK710 hb
 replace BK711 := bB BK711 hb
 replace BK712 := bB BK712 hb
 replace HB := bS3 HB GE710 GE711 GE712 hb
 (try clear hb)
 (try clear hb2)
 (try clear hk)
 (try clear hi)
 refine hK.out _ _ (cb6 BK710 (eb6 BK711)).out (fun hHeld => ?_)
 clear hK K
 refine norm_ (a' := ?_) ?_ ?_
 rotate_left
 ·show Act.put _ (some 17) _ = _
  simp only [Act.put, sA, sB, sC, i64_w, i32_w]
  rfl
 refine pu 13 (some 18) (bT 15 14) HT_ ?_
 refine ro 14 (none) (bT 15 15) HT_ (fun K hK => ?_)
 have hs13 : w12.cell? ⟨gb712, 0, none⟩ = some (.int .i64 0) := bcl BK712 0
 have hfs13 := blk_frozen BK712.out 0
 have hns13_0 := NB710_712.out
 have hns13_1 := NB711_712.out
 have hms13_0 := NB712_710.out
 have hms13_1 := NB712_711.out
 have hs14 : w12.cell? ⟨gb712, 1, none⟩ = some (.int .i64 0) := bcl BK712 1
 have hfs14 := blk_frozen BK712.out 1
 have hns14_0 := NB710_712.out
 have hns14_1 := NB711_712.out
 have hms14_0 := NB712_710.out
 have hms14_1 := NB712_711.out
 have hs15 : w12.cell? ⟨gb712, 2, none⟩ = some (.int .i64 0) := bcl BK712 2
 have hfs15 := blk_frozen BK712.out 2
 have hns15_0 := NB710_712.out
 have hns15_1 := NB711_712.out
 have hms15_0 := NB712_710.out
 have hms15_1 := NB712_711.out
 have hs16 : w12.cell? ⟨gb712, 3, none⟩ = some (.int .i64 0) := bcl BK712 3
 have hfs16 := blk_frozen BK712.out 3
 have hns16_0 := NB710_712.out
 have hns16_1 := NB711_712.out
 have hms16_0 := NB712_710.out
 have hms16_1 := NB712_711.out
 have hs17 : w12.cell? ⟨gb712, 4, none⟩ = some (.int .i64 0) := bcl BK712 4
 have hfs17 := blk_frozen BK712.out 4
 have hns17_0 := NB710_712.out
 have hns17_1 := NB711_712.out
 have hms17_0 := NB712_710.out
 have hms17_1 := NB712_711.out
 have hs18 : w12.cell? ⟨gb712, 5, none⟩ = some (.int .i64 0) := bcl BK712 5
 have hfs18 := blk_frozen BK712.out 5
 have hns18_0 := NB710_712.out
 have hns18_1 := NB711_712.out
 have hms18_0 := NB712_710.out
 have hms18_1 := NB712_711.out
 refine skip_ (w1 := ?_) (by rfl) rfl ?_ ?_
 rotate_left
 ·go_simp
  rfl
 refine hK.out _ _ ⟨(cf6 NB710_712 (hHeld.1)), (cf6 NB710_712 (hHeld.2.1)), (cf6 NB710_712 (hHeld.2.2.1)), (cf6 NB710_712 (hHeld.2.2.2.1)), (cf6 NB710_712 (hHeld.2.2.2.2.1)), (cf6 NB710_712 (hHeld.2.2.2.2.2.1)), (cf6 NB711_712 (hHeld.2.2.2.2.2.2.1)), (cf6 NB711_712 (hHeld.2.2.2.2.2.2.2.1)), (cf6 NB711_712 (hHeld.2.2.2.2.2.2.2.2.1)), (cf6 NB711_712 (hHeld.2.2.2.2.2.2.2.2.2.1)), (cf6 NB711_712 (hHeld.2.2.2.2.2.2.2.2.2.2.1)), (cf6 NB711_712 (hHeld.2.2.2.2.2.2.2.2.2.2.2))⟩ (fun hHeld => ?_)
 clear hK K
 refine done_ (done_of HT_.out (by kernel_rfl)) ?_
 try go_wp2
 refine bodyPost_ret (results_cell_row rfl _ _ gb712 37 #[.int .i64 t713, .int .i64 t714, .int .i64 t715, .int .i64 t716, .int .i64 t719, .int .i64 t720] (0, 0) _ rfl (bq0 BK712) Tryz.underlying37 rfl (by kernel_rfl)) rfl ?_
 exact er (bbw3 HB GE710 GE711 GE712)

attribute [local go_sem high] eqA27 eqA37
/-! ### impl_Motion_kind: function 37 -/
def impl_Motion_kind.f (a0_0 : Int) (a0_1 : Int) (a0_2 : Int) (a0_3 : Int) (a0_4 : Int) (a0_5 : Int) : Option (Int) := (impl_unit.f).bind fun bt722 => (if ((a0_0 == bt722.1 && (a0_1 == bt722.2.1 && (a0_2 == bt722.2.2.1 && (a0_3 == bt722.2.2.2)))) && ((a0_4 == 0 && (a0_5 == 0)))) = true then (some 0) else ((impl_unit.f).bind fun bt726 => (if (a0_0 == bt726.1 && (a0_1 == bt726.2.1 && (a0_2 == bt726.2.2.1 && (a0_3 == bt726.2.2.2)))) = true then (some 1) else ((impl_Mat_det.f a0_0 a0_1 a0_2 a0_3).bind fun t730 => (if t730 = 1 then (some 2) else ((impl_Motion_times.f a0_0 a0_1 a0_2 a0_3 a0_4 a0_5 a0_0 a0_1 a0_2 a0_3 a0_4 a0_5).bind fun bt731 => ((impl_unit.f).bind fun bt737 => (if ((bt731.1 == bt737.1 && (bt731.2.1 == bt737.2.1 && (bt731.2.2.1 == bt737.2.2.1 && (bt731.2.2.2.1 == bt737.2.2.2)))) && ((bt731.2.2.2.2.1 == 0 && (bt731.2.2.2.2.2 == 0)))) = true then (some 3) else (some 4)))))))))
set_option maxHeartbeats 8000000 in
set_option maxRecDepth 100000 in
theorem impl_Motion_kind.calls (a0_0 : Int) (a0_1 : Int) (a0_2 : Int) (a0_3 : Int) (a0_4 : Int) (a0_5 : Int) (r : Int) (w : World) (h : impl_Motion_kind.f a0_0 a0_1 a0_2 a0_3 a0_4 a0_5 = some r) :
  Calls Tryz.prog 37 #[.agg #[.int .i64 a0_0, .int .i64 a0_1, .int .i64 a0_2, .int .i64 a0_3, .int .i64 a0_4, .int .i64 a0_5]] w fun e w' => e = .returned (.int .i64 r) ∧ Below w.heap.size w w' := by
 have hu37 := Tryz.underlying37
 have hu27 := Tryz.underlying27
 have HB := asd (Below.refl w.heap.size w)
 have H : ((impl_unit.f).bind fun bt722 => (if ((a0_0 == bt722.1 && (a0_1 == bt722.2.1 && (a0_2 == bt722.2.2.1 && (a0_3 == bt722.2.2.2)))) && ((a0_4 == 0 && (a0_5 == 0)))) = true then (some 0) else ((impl_unit.f).bind fun bt726 => (if (a0_0 == bt726.1 && (a0_1 == bt726.2.1 && (a0_2 == bt726.2.2.1 && (a0_3 == bt726.2.2.2)))) = true then (some 1) else ((impl_Mat_det.f a0_0 a0_1 a0_2 a0_3).bind fun t730 => (if t730 = 1 then (some 2) else ((impl_Motion_times.f a0_0 a0_1 a0_2 a0_3 a0_4 a0_5 a0_0 a0_1 a0_2 a0_3 a0_4 a0_5).bind fun bt731 => ((impl_unit.f).bind fun bt737 => (if ((bt731.1 == bt737.1 && (bt731.2.1 == bt737.2.1 && (bt731.2.2.1 == bt737.2.2.1 && (bt731.2.2.2.1 == bt737.2.2.2)))) && ((bt731.2.2.2.2.1 == 0 && (bt731.2.2.2.2.2 == 0)))) = true then (some 3) else (some 4)))))))))) = some r := h
 clear h
 obtain ⟨⟨t722, t723, t724, t725⟩, A2, H⟩ := ob H
 try dsimp only at H
 by_cases c3 : ((a0_0 == t722 && (a0_1 == t723 && (a0_2 == t724 && (a0_3 == t725)))) && ((a0_4 == 0 && (a0_5 == 0)))) = true
 rw [if_pos c3] at H
 have c3b0 := c3
 clear c3
 obtain rfl := Option.some.inj H
 rotate_left
 rw [if_neg c3] at H
 have c3b0 : ((a0_0 == t722 && (a0_1 == t723 && (a0_2 == t724 && (a0_3 == t725)))) && ((a0_4 == 0 && (a0_5 == 0)))) = false := by simpa using c3
 clear c3
 obtain ⟨⟨t726, t727, t728, t729⟩, A7, H⟩ := ob H
 try dsimp only at H
 by_cases c8 : (a0_0 == t726 && (a0_1 == t727 && (a0_2 == t728 && (a0_3 == t729)))) = true
 rw [if_pos c8] at H
 have c8b0 := c8
 (try (have c8b1 : decide (a0_0 = t726 && (a0_1 == t727 && (a0_2 == t728 && (a0_3 == t729)))) = true := by simpa using c8))
 (try (have c8b2 : (a0_0 == t726 && (a0_1 == t727 && (a0_2 == t728 && (a0_3 == t729)))) = true := by simpa using c8))
 clear c8
 obtain rfl := Option.some.inj H
 rotate_left
 rw [if_neg c8] at H
 have c8b0 : (a0_0 == t726 && (a0_1 == t727 && (a0_2 == t728 && (a0_3 == t729)))) = false := by simpa using c8
 (try (have c8b1 : decide (a0_0 = t726 && (a0_1 == t727 && (a0_2 == t728 && (a0_3 == t729)))) = false := by simpa using c8))
 (try (have c8b2 : (a0_0 == t726 && (a0_1 == t727 && (a0_2 == t728 && (a0_3 == t729)))) = false := by simpa using c8))
 (try (have c8b3 : ¬ (a0_0 = t726 && (a0_1 == t727 && (a0_2 == t728 && (a0_3 == t729)))) := by simpa using c8))
 clear c8
 obtain ⟨t730, A14, H⟩ := ob H
 try dsimp only at H
 by_cases c15 : t730 = 1
 rw [if_pos c15] at H
 have c15b0 : (t730 == 1) = true := beq_iff_eq.mpr c15
 have c15b1 : (t730 != 1) = false := bne_eq_false_iff_eq.mpr c15
 clear c15
 obtain rfl := Option.some.inj H
 rotate_left
 rw [if_neg c15] at H
 have c15b0 : (t730 == 1) = false := beq_eq_false_iff_ne.mpr c15
 have c15b1 : (t730 != 1) = true := bne_iff_ne.mpr c15
 obtain ⟨⟨t731, t732, t733, t734, t735, t736⟩, A23, H⟩ := ob H
 try dsimp only at H
 obtain ⟨⟨t737, t738, t739, t740⟩, A24, H⟩ := ob H
 try dsimp only at H
 by_cases c25 : ((t731 == t737 && (t732 == t738 && (t733 == t739 && (t734 == t740)))) && ((t735 == 0 && (t736 == 0)))) = true
 rw [if_pos c25] at H
 have c25b0 := c25
 clear c25
 obtain rfl := Option.some.inj H
 rotate_left
 rw [if_neg c25] at H
 have c25b0 : ((t731 == t737 && (t732 == t738 && (t733 == t739 && (t734 == t740)))) && ((t735 == 0 && (t736 == 0)))) = false := by simpa using c25
 clear c25
 obtain rfl := Option.some.inj H
 rotate_left
 all_goals
  go_enter Tryz.func37, Tryz.ntmps37
  try go_wp2_with (first | ((with_reducible refine gd 1 rfl ?_); refine bx #[.int .i64 a0_0, .int .i64 a0_1, .int .i64 a0_2, .int .i64 a0_3, .int .i64 a0_4, .int .i64 a0_5] 37 ?_; intro gb721 hg w4 BK721 hb; have GE721 := ngw0 hg HB; replace HB := bS0 HB hb; clear hb hg))
  replace BK721 := asd (blk_drew BK721.out)
  replace HB := asd (below_drew1 HB.out)
  refine sh 5 (eb6 BK721) (fun hHeld => ?_)
  generalize w4.drew = w5 at BK721 HB hHeld ⊢
  refine take_ (i := 0) (N := some 4) (v := ?_) (a' := ?_) (bT 5 1) rfl rfl (by kernel_rfl) (fun _ _ _ h => h) (Or.inl ⟨by rfl, ?_⟩) hHeld ?_ ?_
  rotate_left
  ·rintro w' ⟨s0, s1, s2, s3, s4, s5⟩
   go_simp
   with_reducible rfl
  rotate_left
  ·simp only [Act.put, sA, sB, sC, i64_w, i32_w]
   rfl
  refine one_ (i := 1) (N := some 5) (bT 5 2) rfl rfl (by kernel_rfl) (by decide) (fun K hK => ?_)
  refine gs Tryz.func74 #[] ?_
  with_reducible refine (impl_unit.calls _ _ _ _ _ A2.out).mono ?_
  rintro e w6 ⟨rfl, hb⟩
  refine ⟨_, rfl, ?_⟩
  replace BK721 := bB BK721 hb
  replace HB := bS1 HB GE721 hb
  (try clear hb)
  (try clear hb2)
  (try clear hk)
  (try clear hi)
  refine hK.out _ _ (eb6 BK721).out (fun hHeld => ?_)
  clear hK K
  refine norm_ (a' := ?_) ?_ ?_
  rotate_left
  ·show Act.put _ (some 5) _ = _
   simp only [Act.put, sA, sB, sC, i64_w, i32_w]
   rfl
  refine pure_ (i := 2) (N := some 6) (v := ?_) (a' := ?_) (bT 5 3) rfl rfl (by kernel_rfl) (fun _ _ _ h => h) (Or.inl ⟨by rfl, ?_⟩) ?_ ?_
  rotate_left
  ·intro w'
   go_simp
   with_reducible rfl
  rotate_left
  ·simp only [Act.put, sA, sB, sC, i64_w, i32_w]
   rfl
  refine pure_ (i := 3) (N := some 7) (v := ?_) (a' := ?_) (bT 5 4) rfl rfl (by kernel_rfl) (fun _ _ _ h => h) (Or.inl ⟨by rfl, ?_⟩) ?_ ?_
  rotate_left
  ·intro w'
   go_simp
   with_reducible rfl
  rotate_left
  ·simp only [Act.put, sA, sB, sC, i64_w, i32_w]
   rfl
  refine pure_ (i := 4) (N := some 3) (v := ?_) (a' := ?_) (bT 5 5) rfl rfl (by kernel_rfl) (fun _ _ _ h => h) (Or.inl ⟨by rfl, ?_⟩) ?_ ?_
  rotate_left
  ·intro w'
   go_simp
   with_reducible rfl
  rotate_left
  ·simp only [Act.put, sA, sB, sC, i64_w, i32_w]
   rfl
  refine done_ (by kernel_rfl) ?_
  try go_wp2
 ·go_ret
  exact er (bbw1 HB GE721)
 rotate_left 4
 all_goals
  replace BK721 := asd (blk_drew BK721.out)
  replace HB := asd (below_drew1 HB.out)
  refine sh 5 (eb6 BK721) (fun hHeld => ?_)
 generalize w6.drew = w12 at BK721 HB hHeld ⊢
 rotate_left
 generalize w6.drew = w19 at BK721 HB hHeld ⊢
 rotate_left
 generalize w6.drew = w29 at BK721 HB hHeld ⊢
 rotate_left
 generalize w6.drew = w39 at BK721 HB hHeld ⊢
 rotate_left
 all_goals
  refine pure_ (i := 0) (N := some 9) (v := ?_) (a' := ?_) (bT 5 1) rfl rfl (by kernel_rfl) (fun _ _ _ h => h) (Or.inl ⟨by rfl, ?_⟩) ?_ ?_
  rotate_left
  ·intro w'
   go_simp
   with_reducible rfl
  rotate_left
  ·simp only [Act.put, sA, sB, sC, i64_w, i32_w]
   rfl
  refine take_ (i := 1) (N := some 10) (v := ?_) (a' := ?_) (bT 5 2) rfl rfl (by kernel_rfl) (fun _ _ _ h => h) (Or.inl ⟨by rfl, ?_⟩) hHeld ?_ ?_
  rotate_left
  ·rintro w' ⟨s0, s1, s2, s3, s4, s5⟩
   go_simp
   with_reducible rfl
  rotate_left
  ·simp only [Act.put, sA, sB, sC, i64_w, i32_w]
   rfl
  refine one_ (i := 2) (N := some 11) (bT 5 3) rfl rfl (by kernel_rfl) (by decide) (fun K hK => ?_)
  refine gs Tryz.func74 #[] ?_
  with_reducible refine (impl_unit.calls _ _ _ _ _ A7.out).mono ?_
  rintro e w13 ⟨rfl, hb⟩
  refine ⟨_, rfl, ?_⟩
  replace BK721 := bB BK721 hb
  replace HB := bS1 HB GE721 hb
  (try clear hb)
  (try clear hb2)
  (try clear hk)
  (try clear hi)
  refine hK.out _ _ (eb6 BK721).out (fun hHeld => ?_)
  clear hK K
  refine norm_ (a' := ?_) ?_ ?_
  rotate_left
  ·show Act.put _ (some 11) _ = _
   simp only [Act.put, sA, sB, sC, i64_w, i32_w]
   rfl
  refine pure_ (i := 3) (N := some 12) (v := ?_) (a' := ?_) (bT 5 4) rfl rfl (by kernel_rfl) (fun _ _ _ h => h) (Or.inl ⟨by rfl, ?_⟩) ?_ ?_
  rotate_left
  ·intro w'
   go_simp
   with_reducible rfl
  rotate_left
  ·simp only [Act.put, sA, sB, sC, i64_w, i32_w]
   rfl
  refine pure_ (i := 4) (N := some 8) (v := ?_) (a' := ?_) (bT 5 5) rfl rfl (by kernel_rfl) (fun _ _ _ h => h) (Or.inl ⟨by rfl, ?_⟩) ?_ ?_
  rotate_left
  ·intro w'
   go_simp
   with_reducible rfl
  rotate_left
  ·simp only [Act.put, sA, sB, sC, i64_w, i32_w]
   rfl
  refine done_ (by kernel_rfl) ?_
 ·try go_wp2
  go_ret
  exact er (bbw1 HB GE721)
 rotate_left 3
 all_goals
  obtain ⟨hcz21_0, hcz21_1, hcz21_2, hcz21_3, hcz21_4, hcz21_5, hfz21_0, hfz21_1, hfz21_2, hfz21_3, hfz21_4, hfz21_5⟩ := bz6 BK721
 ·try go_wp2_with (first | ((with_reducible refine gate_callee (f := 75) rfl ?_); refine gl 16 Tryz.func75 #[.agg #[.int .i64 a0_0, .int .i64 a0_1, .int .i64 a0_2, .int .i64 a0_3]] ?_; (with_reducible refine (impl_Mat_det.calls _ _ _ _ _ _ A14.out).mono ?_); rintro e w22 ⟨rfl, hb⟩; refine ⟨_, rfl, ?_⟩; replace BK721 := bB BK721 hb; replace HB := bS1 HB GE721 hb; (try clear hb)))
  go_ret
  exact er (bbw1 HB GE721)
 rotate_left 2
 all_goals
  try go_wp2_with (first | ((with_reducible refine gate_callee (f := 75) rfl ?_); refine gl 16 Tryz.func75 #[.agg #[.int .i64 a0_0, .int .i64 a0_1, .int .i64 a0_2, .int .i64 a0_3]] ?_; (with_reducible refine (impl_Mat_det.calls _ _ _ _ _ _ A14.out).mono ?_); rintro e w32 ⟨rfl, hb⟩; refine ⟨_, rfl, ?_⟩; replace BK721 := bB BK721 hb; replace HB := bS1 HB GE721 hb; (try clear hb); obtain ⟨hcz33_0, hcz33_1, hcz33_2, hcz33_3, hcz33_4, hcz33_5, hfz33_0, hfz33_1, hfz33_2, hfz33_3, hfz33_4, hfz33_5⟩ := bz6 BK721) | ((with_reducible refine gate_callee (f := 76) rfl ?_); refine gl 21 Tryz.func76 #[.agg #[.int .i64 a0_0, .int .i64 a0_1, .int .i64 a0_2, .int .i64 a0_3, .int .i64 a0_4, .int .i64 a0_5], .agg #[.int .i64 a0_0, .int .i64 a0_1, .int .i64 a0_2, .int .i64 a0_3, .int .i64 a0_4, .int .i64 a0_5]] ?_; (with_reducible refine (impl_Motion_times.calls _ _ _ _ _ _ _ _ _ _ _ _ _ _ _ _ _ _ _ A23.out).mono ?_); rintro e w34 ⟨rfl, hb⟩; refine ⟨_, rfl, ?_⟩; replace BK721 := bB BK721 hb; replace HB := bS1 HB GE721 hb; (try clear hb)) | ((with_reducible refine gate_callee (f := 74) rfl ?_); refine gl 22 Tryz.func74 #[] ?_; (with_reducible refine (impl_unit.calls _ _ _ _ _ A24.out).mono ?_); rintro e w35 ⟨rfl, hb⟩; refine ⟨_, rfl, ?_⟩; replace BK721 := bB BK721 hb; replace HB := bS1 HB GE721 hb; (try clear hb)))
  go_ret
  exact er (bbw1 HB GE721)
/-! ### impl_KindOfMotion: function 14 -/
def impl_KindOfMotion.f (k : Nat) (a0_0 : Int) (a0_1 : Int) (a0_2 : Int) (a0_3 : Int) (a0_4 : Int) (a0_5 : Int) : Option (Int × Int) := (impl_IsMotion.f k a0_0 a0_1 a0_2 a0_3 a0_4 a0_5).bind fun t742 => (if t742 = true then ((impl_Motion_kind.f a0_0 a0_1 a0_2 a0_3 a0_4 a0_5).bind fun t743 => (some (t743, 0))) else (some (0, 1)))
set_option maxHeartbeats 8000000 in
set_option maxRecDepth 100000 in
theorem impl_KindOfMotion.calls (k : Nat) (a0_0 : Int) (a0_1 : Int) (a0_2 : Int) (a0_3 : Int) (a0_4 : Int) (a0_5 : Int) (r1 : Int) (r2 : Int) (w : World) (h : impl_KindOfMotion.f k a0_0 a0_1 a0_2 a0_3 a0_4 a0_5 = some (r1, r2)) :
  Calls Tryz.prog 14 #[.agg #[.int .i64 a0_0, .int .i64 a0_1, .int .i64 a0_2, .int .i64 a0_3, .int .i64 a0_4, .int .i64 a0_5]] w fun e w' => e = .returned (.tuple #[.int .i64 r1, .int .i64 r2]) ∧ Below w.heap.size w w' := by
 have hu37 := Tryz.underlying37
 have HB := asd (Below.refl w.heap.size w)
 have H : ((impl_IsMotion.f k a0_0 a0_1 a0_2 a0_3 a0_4 a0_5).bind fun t742 => (if t742 = true then ((impl_Motion_kind.f a0_0 a0_1 a0_2 a0_3 a0_4 a0_5).bind fun t743 => (some (t743, 0))) else (some (0, 1)))) = some (r1, r2) := h
 clear h
 obtain ⟨t742, A2, H⟩ := ob H
 try dsimp only at H
 by_cases c3 : t742 = true
 ·subst c3
  replace H := ifT H
  obtain ⟨t743, A4, H⟩ := ob H
  try dsimp only at H
  simp only [Option.some.injEq, Prod.mk.injEq] at H
  obtain ⟨rfl, rfl⟩ := H
  go_enter Tryz.func14, Tryz.ntmps14
  go_wp2_with (first | ((with_reducible refine gd 1 rfl ?_); refine bx #[.int .i64 a0_0, .int .i64 a0_1, .int .i64 a0_2, .int .i64 a0_3, .int .i64 a0_4, .int .i64 a0_5] 37 ?_; intro gb741 hg w5 BK741 hb; have GE741 := ngw0 hg HB; replace HB := bS0 HB hb; clear hb hg; obtain ⟨hcz6_0, hcz6_1, hcz6_2, hcz6_3, hcz6_4, hcz6_5, hfz6_0, hfz6_1, hfz6_2, hfz6_3, hfz6_4, hfz6_5⟩ := bz6 BK741) | ((with_reducible refine gate_callee (f := 36) rfl ?_); refine gl 5 Tryz.func36 #[.agg #[.int .i64 a0_0, .int .i64 a0_1, .int .i64 a0_2, .int .i64 a0_3, .int .i64 a0_4, .int .i64 a0_5]] ?_; (with_reducible refine (impl_IsMotion.calls _ _ _ _ _ _ _ _ _ A2.out).mono ?_); rintro e w7 ⟨rfl, hb⟩; refine ⟨_, rfl, ?_⟩; replace BK741 := bB BK741 hb; replace HB := bS1 HB GE741 hb; (try clear hb); obtain ⟨hcz8_0, hcz8_1, hcz8_2, hcz8_3, hcz8_4, hcz8_5, hfz8_0, hfz8_1, hfz8_2, hfz8_3, hfz8_4, hfz8_5⟩ := bz6 BK741) | ((with_reducible refine gate_callee (f := 37) rfl ?_); refine gl 8 Tryz.func37 #[.agg #[.int .i64 a0_0, .int .i64 a0_1, .int .i64 a0_2, .int .i64 a0_3, .int .i64 a0_4, .int .i64 a0_5]] ?_; (with_reducible refine (impl_Motion_kind.calls _ _ _ _ _ _ _ _ A4.out).mono ?_); rintro e w9 ⟨rfl, hb⟩; refine ⟨_, rfl, ?_⟩; replace BK741 := bB BK741 hb; replace HB := bS1 HB GE741 hb; (try clear hb)))
  go_ret2
  exact er (bbw1 HB GE741)
 ·replace c3 := Bool.eq_false_iff.mpr c3
  subst c3
  replace H := ifF H
  simp only [Option.some.injEq, Prod.mk.injEq] at H
  obtain ⟨rfl, rfl⟩ := H
  go_enter Tryz.func14, Tryz.ntmps14
  go_wp2_with (first | ((with_reducible refine gd 1 rfl ?_); refine bx #[.int .i64 a0_0, .int .i64 a0_1, .int .i64 a0_2, .int .i64 a0_3, .int .i64 a0_4, .int .i64 a0_5] 37 ?_; intro gb741 hg w10 BK741 hb; have GE741 := ngw0 hg HB; replace HB := bS0 HB hb; clear hb hg; obtain ⟨hcz11_0, hcz11_1, hcz11_2, hcz11_3, hcz11_4, hcz11_5, hfz11_0, hfz11_1, hfz11_2, hfz11_3, hfz11_4, hfz11_5⟩ := bz6 BK741) | ((with_reducible refine gate_callee (f := 36) rfl ?_); refine gl 5 Tryz.func36 #[.agg #[.int .i64 a0_0, .int .i64 a0_1, .int .i64 a0_2, .int .i64 a0_3, .int .i64 a0_4, .int .i64 a0_5]] ?_; (with_reducible refine (impl_IsMotion.calls _ _ _ _ _ _ _ _ _ A2.out).mono ?_); rintro e w12 ⟨rfl, hb⟩; refine ⟨_, rfl, ?_⟩; replace BK741 := bB BK741 hb; replace HB := bS1 HB GE741 hb; (try clear hb)))
  go_ret2
  exact er (bbw1 HB GE741)
/-! ### impl_latticeVecCode: function 38 -/
def impl_latticeVecCode.f (a0_0 : Int) (a0_1 : Int) (a0_2 : Int) (a1_0 : Int) (a1_1 : Int) : Option (Int) := (impl_IsLattice.f a0_0 a0_1 a0_2).bind fun t746 => (if t746 = true then ((impl_IsVec.f a1_0 a1_1).bind fun t747 => (if t747 = true then (some 0) else (some 1))) else (some 1))
set_option maxHeartbeats 8000000 in
set_option maxRecDepth 100000 in
theorem impl_latticeVecCode.calls (a0_0 : Int) (a0_1 : Int) (a0_2 : Int) (a1_0 : Int) (a1_1 : Int) (r : Int) (w : World) (h : impl_latticeVecCode.f a0_0 a0_1 a0_2 a1_0 a1_1 = some r) :
  Calls Tryz.prog 38 #[.agg #[.int .i64 a0_0, .int .i64 a0_1, .int .i64 a0_2], .agg #[.int .i64 a1_0, .int .i64 a1_1]] w fun e w' => e = .returned (.int .i64 r) ∧ Below w.heap.size w w' := by
 have hu25 := Tryz.underlying25
 have hu31 := Tryz.underlying31
 have HB := asd (Below.refl w.heap.size w)
 have H : ((impl_IsLattice.f a0_0 a0_1 a0_2).bind fun t746 => (if t746 = true then ((impl_IsVec.f a1_0 a1_1).bind fun t747 => (if t747 = true then (some 0) else (some 1))) else (some 1))) = some r := h
 clear h
 obtain ⟨t746, A3, H⟩ := ob H
 try dsimp only at H
 by_cases c4 : t746 = true
 subst c4
 replace H := ifT H
 obtain ⟨t747, A5, H⟩ := ob H
 try dsimp only at H
 by_cases c6 : t747 = true
 subst c6
 replace H := ifT H
 obtain rfl := Option.some.inj H
 rotate_left
 replace c6 := Bool.eq_false_iff.mpr c6
 subst c6
 replace H := ifF H
 obtain rfl := Option.some.inj H
 rotate_left
 replace c4 := Bool.eq_false_iff.mpr c4
 subst c4
 replace H := ifF H
 obtain rfl := Option.some.inj H
 rotate_left
 all_goals
  go_enter Tryz.func38, Tryz.ntmps38
 rotate_left 2
 ·go_wp2_with (first | ((with_reducible refine gd 2 rfl ?_); refine bx #[.int .i64 a0_0, .int .i64 a0_1, .int .i64 a0_2] 25 ?_; intro gb744 hg w21 BK744 hb; have GE744 := ngw0 hg HB; replace HB := bS0 HB hb; clear hb hg) | ((with_reducible refine gd 3 rfl ?_); refine bx #[.int .i64 a1_0, .int .i64 a1_1] 31 ?_; intro gb745 hg w22 BK745 hb; have GE745 := ngw1 hg HB GE744; replace HB := bS1 HB GE744 hb; have NB744_745 := nlt hg BK744; have NB745_744 := nsy (nlt hg BK744); replace BK744 := bB BK744 hb; clear hb hg; have hnb23 := NB744_745.out; have hnc23 := NB745_744.out; obtain ⟨hcz24_0, hcz24_1, hcz24_2, hfz24_0, hfz24_1, hfz24_2⟩ := bz3 BK744) | ((with_reducible refine gate_callee (f := 62) rfl ?_); refine gl 6 Tryz.func62 #[.agg #[.int .i64 a0_0, .int .i64 a0_1, .int .i64 a0_2]] ?_; (with_reducible refine (impl_IsLattice.calls _ _ _ _ _ A3.out).mono ?_); rintro e w25 ⟨rfl, hb⟩; refine ⟨_, rfl, ?_⟩; replace BK744 := bB BK744 hb; replace BK745 := bB BK745 hb; replace HB := bS2 HB GE744 GE745 hb; (try clear hb)))
  go_ret
  exact er (bbw2 HB GE744 GE745)
 all_goals
  go_wp2_with (first | ((with_reducible refine gd 2 rfl ?_); refine bx #[.int .i64 a0_0, .int .i64 a0_1, .int .i64 a0_2] 25 ?_; intro gb744 hg w7 BK744 hb; have GE744 := ngw0 hg HB; replace HB := bS0 HB hb; clear hb hg) | ((with_reducible refine gd 3 rfl ?_); refine bx #[.int .i64 a1_0, .int .i64 a1_1] 31 ?_; intro gb745 hg w8 BK745 hb; have GE745 := ngw1 hg HB GE744; replace HB := bS1 HB GE744 hb; have NB744_745 := nlt hg BK744; have NB745_744 := nsy (nlt hg BK744); replace BK744 := bB BK744 hb; clear hb hg; have hnb9 := NB744_745.out; have hnc9 := NB745_744.out; obtain ⟨hcz10_0, hcz10_1, hcz10_2, hfz10_0, hfz10_1, hfz10_2⟩ := bz3 BK744) | ((with_reducible refine gate_callee (f := 62) rfl ?_); refine gl 6 Tryz.func62 #[.agg #[.int .i64 a0_0, .int .i64 a0_1, .int .i64 a0_2]] ?_; (with_reducible refine (impl_IsLattice.calls _ _ _ _ _ A3.out).mono ?_); rintro e w11 ⟨rfl, hb⟩; refine ⟨_, rfl, ?_⟩; replace BK744 := bB BK744 hb; replace BK745 := bB BK745 hb; replace HB := bS2 HB GE744 GE745 hb; (try clear hb); obtain ⟨hcz12_0, hcz12_1, hfz12_0, hfz12_1⟩ := bz2 BK745) | (go_at_call 41; (with_reducible refine (impl_IsVec.calls _ _ _ _ A5.out).mono ?_); rintro e w13 ⟨rfl, hb⟩; replace BK744 := bB BK744 hb; replace BK745 := bB BK745 hb; replace HB := bS2 HB GE744 GE745 hb; (try clear hb)))
  go_ret
  exact er (bbw2 HB GE744 GE745)
/-! ### impl_IsInLattice: function 15 -/
def impl_IsInLattice.f (a0_0 : Int) (a0_1 : Int) (a0_2 : Int) (a1_0 : Int) (a1_1 : Int) : Option (Bool × Int) := (impl_latticeVecCode.f a0_0 a0_1 a0_2 a1_0 a1_1).bind fun t750 => (if t750 = 0 then ((impl_Lattice_has.f a0_0 a0_1 a0_2 a1_0 a1_1).bind fun t751 => (some (t751, 0))) else (some (false, t750)))
set_option maxHeartbeats 8000000 in
set_option maxRecDepth 100000 in
theorem impl_IsInLattice.calls (a0_0 : Int) (a0_1 : Int) (a0_2 : Int) (a1_0 : Int) (a1_1 : Int) (r1 : Bool) (r2 : Int) (w : World) (h : impl_IsInLattice.f a0_0 a0_1 a0_2 a1_0 a1_1 = some (r1, r2)) :
  Calls Tryz.prog 15 #[.agg #[.int .i64 a0_0, .int .i64 a0_1, .int .i64 a0_2], .agg #[.int .i64 a1_0, .int .i64 a1_1]] w fun e w' => e = .returned (.tuple #[.bool r1, .int .i64 r2]) ∧ Below w.heap.size w w' := by
 have hu25 := Tryz.underlying25
 have hu31 := Tryz.underlying31
 have HB := asd (Below.refl w.heap.size w)
 have H : ((impl_latticeVecCode.f a0_0 a0_1 a0_2 a1_0 a1_1).bind fun t750 => (if t750 = 0 then ((impl_Lattice_has.f a0_0 a0_1 a0_2 a1_0 a1_1).bind fun t751 => (some (t751, 0))) else (some (false, t750)))) = some (r1, r2) := h
 clear h
 obtain ⟨t750, A3, H⟩ := ob H
 try dsimp only at H
 by_cases c4 : t750 = 0
 ·rw [if_pos c4] at H
  have c4b0 : (t750 == 0) = true := beq_iff_eq.mpr c4
  have c4b1 : (t750 != 0) = false := bne_eq_false_iff_eq.mpr c4
  clear c4
  obtain ⟨t751, A5, H⟩ := ob H
  try dsimp only at H
  simp only [Option.some.injEq, Prod.mk.injEq] at H
  obtain ⟨rfl, rfl⟩ := H
  go_enter Tryz.func15, Tryz.ntmps15
  go_wp2_with (first | ((with_reducible refine gd 2 rfl ?_); refine bx #[.int .i64 a0_0, .int .i64 a0_1, .int .i64 a0_2] 25 ?_; intro gb748 hg w6 BK748 hb; have GE748 := ngw0 hg HB; replace HB := bS0 HB hb; clear hb hg) | ((with_reducible refine gd 3 rfl ?_); refine bx #[.int .i64 a1_0, .int .i64 a1_1] 31 ?_; intro gb749 hg w7 BK749 hb; have GE749 := ngw1 hg HB GE748; replace HB := bS1 HB GE748 hb; have NB748_749 := nlt hg BK748; have NB749_748 := nsy (nlt hg BK748); replace BK748 := bB BK748 hb; clear hb hg; have hnb8 := NB748_749.out; have hnc8 := NB749_748.out; obtain ⟨hcz9_0, hcz9_1, hcz9_2, hfz9_0, hfz9_1, hfz9_2⟩ := bz3 BK748; obtain ⟨hcz10_0, hcz10_1, hfz10_0, hfz10_1⟩ := bz2 BK749) | ((with_reducible refine gate_callee (f := 38) rfl ?_); refine gl 9 Tryz.func38 #[.agg #[.int .i64 a0_0, .int .i64 a0_1, .int .i64 a0_2], .agg #[.int .i64 a1_0, .int .i64 a1_1]] ?_; (with_reducible refine (impl_latticeVecCode.calls _ _ _ _ _ _ _ A3.out).mono ?_); rintro e w11 ⟨rfl, hb⟩; refine ⟨_, rfl, ?_⟩; replace BK748 := bB BK748 hb; replace BK749 := bB BK749 hb; replace HB := bS2 HB GE748 GE749 hb; (try clear hb); obtain ⟨hcz12_0, hcz12_1, hcz12_2, hfz12_0, hfz12_1, hfz12_2⟩ := bz3 BK748; obtain ⟨hcz13_0, hcz13_1, hfz13_0, hfz13_1⟩ := bz2 BK749) | ((with_reducible refine gate_callee (f := 39) rfl ?_); refine gl 15 Tryz.func39 #[.agg #[.int .i64 a0_0, .int .i64 a0_1, .int .i64 a0_2], .agg #[.int .i64 a1_0, .int .i64 a1_1]] ?_; (with_reducible refine (impl_Lattice_has.calls _ _ _ _ _ _ _ A5.out).mono ?_); rintro e w14 ⟨rfl, hb⟩; refine ⟨_, rfl, ?_⟩; replace BK748 := bB BK748 hb; replace BK749 := bB BK749 hb; replace HB := bS2 HB GE748 GE749 hb; (try clear hb)))
  go_ret2
  exact er (bbw2 HB GE748 GE749)
 ·rw [if_neg c4] at H
  have c4b0 : (t750 == 0) = false := beq_eq_false_iff_ne.mpr c4
  have c4b1 : (t750 != 0) = true := bne_iff_ne.mpr c4
  simp only [Option.some.injEq, Prod.mk.injEq] at H
  obtain ⟨rfl, rfl⟩ := H
  go_enter Tryz.func15, Tryz.ntmps15
  go_wp2_with (first | ((with_reducible refine gd 2 rfl ?_); refine bx #[.int .i64 a0_0, .int .i64 a0_1, .int .i64 a0_2] 25 ?_; intro gb748 hg w15 BK748 hb; have GE748 := ngw0 hg HB; replace HB := bS0 HB hb; clear hb hg) | ((with_reducible refine gd 3 rfl ?_); refine bx #[.int .i64 a1_0, .int .i64 a1_1] 31 ?_; intro gb749 hg w16 BK749 hb; have GE749 := ngw1 hg HB GE748; replace HB := bS1 HB GE748 hb; have NB748_749 := nlt hg BK748; have NB749_748 := nsy (nlt hg BK748); replace BK748 := bB BK748 hb; clear hb hg; have hnb17 := NB748_749.out; have hnc17 := NB749_748.out; obtain ⟨hcz18_0, hcz18_1, hcz18_2, hfz18_0, hfz18_1, hfz18_2⟩ := bz3 BK748; obtain ⟨hcz19_0, hcz19_1, hfz19_0, hfz19_1⟩ := bz2 BK749) | ((with_reducible refine gate_callee (f := 38) rfl ?_); refine gl 9 Tryz.func38 #[.agg #[.int .i64 a0_0, .int .i64 a0_1, .int .i64 a0_2], .agg #[.int .i64 a1_0, .int .i64 a1_1]] ?_; (with_reducible refine (impl_latticeVecCode.calls _ _ _ _ _ _ _ A3.out).mono ?_); rintro e w20 ⟨rfl, hb⟩; refine ⟨_, rfl, ?_⟩; replace BK748 := bB BK748 hb; replace BK749 := bB BK749 hb; replace HB := bS2 HB GE748 GE749 hb; (try clear hb)))
  go_ret2
  exact er (bbw2 HB GE748 GE749)
/-! ### impl_ApplyMat: function 16 -/
def impl_ApplyMat.j0 : Nat → Bool → Int → Int → Int → Int → Int → Int → Option (Int × Int × Int)
 | 0, _, _, _, _, _, _, _ => none
 | k + 1, x13, x753000, x753001, x753002, x753003, x754000, x754001 => if x13 = true then (some (0, 0, 1)) else ((impl_Mat_apply.f x753000 x753001 x753002 x753003 x754000 x754001).bind fun bt757 => ((impl_limited.f bt757.1 bt757.2).bind fun bt759 => (some (bt759.1, bt759.2.1, bt759.2.2))))
def impl_ApplyMat.f (k : Nat) (a0_0 : Int) (a0_1 : Int) (a0_2 : Int) (a0_3 : Int) (a1_0 : Int) (a1_1 : Int) : Option (Int × Int × Int) := (impl_IsMat.f a0_0 a0_1 a0_2 a0_3).bind fun t755 => (if t755 = true then ((impl_IsVec.f a1_0 a1_1).bind fun t756 => (impl_ApplyMat.j0 k (!t756) a0_0 a0_1 a0_2 a0_3 a1_0 a1_1)) else (impl_ApplyMat.j0 k true a0_0 a0_1 a0_2 a0_3 a1_0 a1_1))
set_option maxHeartbeats 8000000 in
set_option maxRecDepth 100000 in
theorem impl_ApplyMat.calls (k : Nat) (a0_0 : Int) (a0_1 : Int) (a0_2 : Int) (a0_3 : Int) (a1_0 : Int) (a1_1 : Int) (r1 : Int) (r2 : Int) (r3 : Int) (w : World) (h : impl_ApplyMat.f k a0_0 a0_1 a0_2 a0_3 a1_0 a1_1 = some (r1, r2, r3)) :
  Calls Tryz.prog 16 #[.agg #[.int .i64 a0_0, .int .i64 a0_1, .int .i64 a0_2, .int .i64 a0_3], .agg #[.int .i64 a1_0, .int .i64 a1_1]] w fun e w' => e = .returned (.tuple #[.agg #[.int .i64 r1, .int .i64 r2], .int .i64 r3]) ∧ Below w.heap.size w w' := by
 have hu27 := Tryz.underlying27
 have hu31 := Tryz.underlying31
 have HB := asd (Below.refl w.heap.size w)
 have H : ((impl_IsMat.f a0_0 a0_1 a0_2 a0_3).bind fun t755 => (if t755 = true then ((impl_IsVec.f a1_0 a1_1).bind fun t756 => (impl_ApplyMat.j0 k (!t756) a0_0 a0_1 a0_2 a0_3 a1_0 a1_1)) else (impl_ApplyMat.j0 k true a0_0 a0_1 a0_2 a0_3 a1_0 a1_1))) = some (r1, r2, r3) := h
 clear h
 have HC3 := Aside0.mk H
 clear H
 go_enter Tryz.func16, Tryz.ntmps16
 go_upto_region 1 with (first | ((with_reducible refine gd 2 rfl ?_); refine bx #[.int .i64 a0_0, .int .i64 a0_1, .int .i64 a0_2, .int .i64 a0_3] 27 ?_; intro gb752 hg w4 BK752 hb; have GE752 := ngw0 hg HB; replace HB := bS0 HB hb; clear hb hg) | ((with_reducible refine gd 3 rfl ?_); refine bx #[.int .i64 a1_0, .int .i64 a1_1] 31 ?_; intro gb753 hg w5 BK753 hb; have GE753 := ngw1 hg HB GE752; replace HB := bS1 HB GE752 hb; have NB752_753 := nlt hg BK752; have NB753_752 := nsy (nlt hg BK752); replace BK752 := bB BK752 hb; clear hb hg) | ((with_reducible refine gd 4 rfl ?_); refine bx #[.int .i64 0, .int .i64 0] 31 ?_; intro gb754 hg w6 BK754 hb; have GE754 := ngw2 hg HB GE752 GE753; replace HB := bS2 HB GE752 GE753 hb; have NB752_754 := nlt hg BK752; have NB754_752 := nsy (nlt hg BK752); replace BK752 := bB BK752 hb; have NB753_754 := nlt hg BK753; have NB754_753 := nsy (nlt hg BK753); replace BK753 := bB BK753 hb; clear hb hg))
 (try simp only [Act.put, sA, sB, sC])
 go_cut [13] (fun v13 wc => ∃ (kq : Nat) (x13_2 : Bool), v13 = .bool x13_2 ∧ Aside0 (impl_ApplyMat.j0 kq x13_2 a0_0 a0_1 a0_2 a0_3 a1_0 a1_1 = some (r1, r2, r3)) ∧ Aside0 (kq ≤ k) ∧ Aside0 (wc.heap[gb752]? = some (.cells #[.int .i64 a0_0, .int .i64 a0_1, .int .i64 a0_2, .int .i64 a0_3] 27 (0, 0))) ∧ Aside0 (wc.heap[gb753]? = some (.cells #[.int .i64 a1_0, .int .i64 a1_1] 31 (0, 0))) ∧ Aside0 (wc.heap[gb754]? = some (.cells #[.int .i64 0, .int .i64 0] 31 (0, 0))) ∧ Aside0 (Below w.heap.size w wc))
 case first =>
  have H := HC3.out
  clear HC3
  obtain ⟨t755, A7, H⟩ := ob H
  try dsimp only at H
  by_cases c8 : t755 = true
  ·subst c8
   replace H := ifT H
   obtain ⟨t756, A9, H⟩ := ob H
   try dsimp only at H
   have H' := Aside0.mk H
   clear H
   have hnb10 := NB752_753.out
   have hnc10 := NB753_752.out
   have hnb11 := NB752_754.out
   have hnc11 := NB754_752.out
   obtain ⟨hcz12_0, hcz12_1, hcz12_2, hcz12_3, hfz12_0, hfz12_1, hfz12_2, hfz12_3⟩ := bz4 BK752
   go_wp2_with (first | ((with_reducible refine gate_callee (f := 40) rfl ?_); refine gl 7 Tryz.func40 #[.agg #[.int .i64 a0_0, .int .i64 a0_1, .int .i64 a0_2, .int .i64 a0_3]] ?_; (with_reducible refine (impl_IsMat.calls _ _ _ _ _ _ A7.out).mono ?_); rintro e w13 ⟨rfl, hb⟩; refine ⟨_, rfl, ?_⟩; replace BK752 := bB BK752 hb; replace BK753 := bB BK753 hb; replace BK754 := bB BK754 hb; replace HB := bS3 HB GE752 GE753 GE754 hb; (try clear hb); have hnb14 := NB753_754.out; have hnc14 := NB754_753.out; obtain ⟨hcz15_0, hcz15_1, hfz15_0, hfz15_1⟩ := bz2 BK753) | (go_at_call 41; (with_reducible refine (impl_IsVec.calls _ _ _ _ A9.out).mono ?_); rintro e w16 ⟨rfl, hb⟩; replace BK752 := bB BK752 hb; replace BK753 := bB BK753 hb; replace BK754 := bB BK754 hb; replace HB := bS3 HB GE752 GE753 GE754 hb; (try clear hb)))
   go_meet
   case rel => exact ⟨_, (!t756), (by first | rfl | (simp; done) | (simp [*]; done)), H', ⟨by first | omega | exact Nat.le_refl _⟩, ⟨bkp BK752⟩, ⟨bkp BK753⟩, ⟨bkp BK754⟩, ⟨bbw3 HB GE752 GE753 GE754⟩⟩
  ·replace c8 := Bool.eq_false_iff.mpr c8
   subst c8
   replace H := ifF H
   have H' := Aside0.mk H
   clear H
   have hnb17 := NB752_753.out
   have hnc17 := NB753_752.out
   have hnb18 := NB752_754.out
   have hnc18 := NB754_752.out
   obtain ⟨hcz19_0, hcz19_1, hcz19_2, hcz19_3, hfz19_0, hfz19_1, hfz19_2, hfz19_3⟩ := bz4 BK752
   go_wp2_with (first | ((with_reducible refine gate_callee (f := 40) rfl ?_); refine gl 7 Tryz.func40 #[.agg #[.int .i64 a0_0, .int .i64 a0_1, .int .i64 a0_2, .int .i64 a0_3]] ?_; (with_reducible refine (impl_IsMat.calls _ _ _ _ _ _ A7.out).mono ?_); rintro e w20 ⟨rfl, hb⟩; refine ⟨_, rfl, ?_⟩; replace BK752 := bB BK752 hb; replace BK753 := bB BK753 hb; replace BK754 := bB BK754 hb; replace HB := bS3 HB GE752 GE753 GE754 hb; (try clear hb)))
   go_meet
   case rel => exact ⟨_, (true), (by first | rfl | (simp; done) | (simp [*]; done)), H', ⟨by first | omega | exact Nat.le_refl _⟩, ⟨bkp BK752⟩, ⟨bkp BK753⟩, ⟨bkp BK754⟩, ⟨bbw3 HB GE752 GE753 GE754⟩⟩
 case rest =>
  clear HC3
  try clear c1
  try clear p2
  try clear c4
  try clear c8
  try clear c10
  try clear c11
  try clear c14
  try clear c16
  try clear c17
  try clear c18
  try clear hcz12_0
  try clear hcz12_1
  try clear hcz12_2
  try clear hcz12_3
  try clear hcz15_0
  try clear hcz15_1
  try clear hcz19_0
  try clear hcz19_1
  try clear hcz19_2
  try clear hcz19_3
  try clear hfz12_0
  try clear hfz12_1
  try clear hfz12_2
  try clear hfz12_3
  try clear hfz15_0
  try clear hfz15_1
  try clear hfz19_0
  try clear hfz19_1
  try clear hfz19_2
  try clear hfz19_3
  obtain ⟨kq, x13_2, rfl, HA, HJ2, BK752, BK753, BK754, HB⟩ := hcut
  cases kq with
  | zero => exact absurd HA.out (by simp [impl_ApplyMat.j0])
  | succ kj2 =>
   have H := HA.out
   clear HA
   simp only [impl_ApplyMat.j0] at H
   by_cases c21 : x13_2 = true
   ·subst c21
    replace H := ifT H
    simp only [Option.some.injEq, Prod.mk.injEq] at H
    obtain ⟨rfl, rfl, rfl⟩ := H
    have hnb22 := NB754_752.out
    have hnc22 := NB752_754.out
    have hnb23 := NB754_753.out
    have hnc23 := NB753_754.out
    obtain ⟨hcz24_0, hcz24_1, hfz24_0, hfz24_1⟩ := bz2 BK754
    go_wp2
    refine bodyPost_ret (results_ct rfl _ _ gb754 31 #[.int .i64 0, .int .i64 0] (0, 0) _ rfl (bq0 BK754) Tryz.underlying31 rfl (by kernel_rfl)) rfl ?_
    exact er (bbw3 HB GE752 GE753 GE754)
   ·replace c21 := Bool.eq_false_iff.mpr c21
    subst c21
    replace H := ifF H
    obtain ⟨⟨t757, t758⟩, A25, H⟩ := ob H
    try dsimp only at H
    obtain ⟨⟨t759, t760, t761⟩, A26, H⟩ := ob H
    try dsimp only at H
    simp only [Option.some.injEq, Prod.mk.injEq] at H
    obtain ⟨rfl, rfl, rfl⟩ := H
    have hnb27 := NB752_753.out
    have hnc27 := NB753_752.out
    have hnb28 := NB752_754.out
    have hnc28 := NB754_752.out
    obtain ⟨hcz29_0, hcz29_1, hcz29_2, hcz29_3, hfz29_0, hfz29_1, hfz29_2, hfz29_3⟩ := bz4 BK752
    have hnb30 := NB753_754.out
    have hnc30 := NB754_753.out
    obtain ⟨hcz31_0, hcz31_1, hfz31_0, hfz31_1⟩ := bz2 BK753
    go_wp2_with (first | ((with_reducible refine gate_callee (f := 43) rfl ?_); refine gl 17 Tryz.func43 #[.agg #[.int .i64 a0_0, .int .i64 a0_1, .int .i64 a0_2, .int .i64 a0_3], .agg #[.int .i64 a1_0, .int .i64 a1_1]] ?_; (with_reducible refine (impl_Mat_apply.calls _ _ _ _ _ _ _ _ _ A25.out).mono ?_); rintro e w32 ⟨rfl, hb⟩; refine ⟨_, rfl, ?_⟩; replace BK752 := bB BK752 hb; replace BK753 := bB BK753 hb; replace BK754 := bB BK754 hb; replace HB := bS3 HB GE752 GE753 GE754 hb; (try clear hb)) | ((with_reducible refine gate_callee (f := 42) rfl ?_); refine gl 18 Tryz.func42 #[.agg #[.int .i64 t757, .int .i64 t758]] ?_; (with_reducible refine (impl_limited.calls _ _ _ _ _ _ A26.out).mono ?_); rintro e w33 ⟨rfl, hb⟩; refine ⟨_, rfl, ?_⟩; replace BK752 := bB BK752 hb; replace BK753 := bB BK753 hb; replace BK754 := bB BK754 hb; replace HB := bS3 HB GE752 GE753 GE754 hb; (try clear hb); obtain ⟨hcz34_0, hcz34_1, hfz34_0, hfz34_1⟩ := bz2 BK754))
    refine bodyPost_ret (results_ct rfl _ _ gb754 31 #[.int .i64 t759, .int .i64 t760] (0, 0) _ rfl (bq0 BK754) Tryz.underlying31 rfl (by kernel_rfl)) rfl ?_
    exact er (bbw3 HB GE752 GE753 GE754)
/-! ### impl_DetOf: function 17 -/
def impl_DetOf.f (a0_0 : Int) (a0_1 : Int) (a1_0 : Int) (a1_1 : Int) : Option (Int × Int) := (impl_IsVec.f a0_0 a0_1).bind fun t764 => (if t764 = true then ((impl_IsVec.f a1_0 a1_1).bind fun t765 => (if t765 = true then ((impl_det.f a0_0 a0_1 a1_0 a1_1).bind fun t766 => (some (t766, 0))) else (some (0, 1)))) else (some (0, 1)))
set_option maxHeartbeats 8000000 in
set_option maxRecDepth 100000 in
theorem impl_DetOf.calls (a0_0 : Int) (a0_1 : Int) (a1_0 : Int) (a1_1 : Int) (r1 : Int) (r2 : Int) (w : World) (h : impl_DetOf.f a0_0 a0_1 a1_0 a1_1 = some (r1, r2)) :
  Calls Tryz.prog 17 #[.agg #[.int .i64 a0_0, .int .i64 a0_1], .agg #[.int .i64 a1_0, .int .i64 a1_1]] w fun e w' => e = .returned (.tuple #[.int .i64 r1, .int .i64 r2]) ∧ Below w.heap.size w w' := by
 have hu31 := Tryz.underlying31
 have HB := asd (Below.refl w.heap.size w)
 have H : ((impl_IsVec.f a0_0 a0_1).bind fun t764 => (if t764 = true then ((impl_IsVec.f a1_0 a1_1).bind fun t765 => (if t765 = true then ((impl_det.f a0_0 a0_1 a1_0 a1_1).bind fun t766 => (some (t766, 0))) else (some (0, 1)))) else (some (0, 1)))) = some (r1, r2) := h
 clear h
 obtain ⟨t764, A3, H⟩ := ob H
 try dsimp only at H
 by_cases c4 : t764 = true
 subst c4
 replace H := ifT H
 obtain ⟨t765, A5, H⟩ := ob H
 try dsimp only at H
 by_cases c6 : t765 = true
 subst c6
 replace H := ifT H
 obtain ⟨t766, A7, H⟩ := ob H
 try dsimp only at H
 rotate_left
 replace c6 := Bool.eq_false_iff.mpr c6
 subst c6
 replace H := ifF H
 rotate_left
 replace c4 := Bool.eq_false_iff.mpr c4
 subst c4
 replace H := ifF H
 rotate_left
 all_goals
  simp only [Option.some.injEq, Prod.mk.injEq] at H
  obtain ⟨rfl, rfl⟩ := H
  go_enter Tryz.func17, Tryz.ntmps17
 go_wp2_with (first | ((with_reducible refine gd 2 rfl ?_); refine bx #[.int .i64 a0_0, .int .i64 a0_1] 31 ?_; intro gb762 hg w8 BK762 hb; have GE762 := ngw0 hg HB; replace HB := bS0 HB hb; clear hb hg) | ((with_reducible refine gd 3 rfl ?_); refine bx #[.int .i64 a1_0, .int .i64 a1_1] 31 ?_; intro gb763 hg w9 BK763 hb; have GE763 := ngw1 hg HB GE762; replace HB := bS1 HB GE762 hb; have NB762_763 := nlt hg BK762; have NB763_762 := nsy (nlt hg BK762); replace BK762 := bB BK762 hb; clear hb hg; have hnb10 := NB762_763.out; have hnc10 := NB763_762.out; obtain ⟨hcz11_0, hcz11_1, hfz11_0, hfz11_1⟩ := bz2 BK762) | ((with_reducible refine gate_callee (f := 41) rfl ?_); refine gl 7 Tryz.func41 #[.agg #[.int .i64 a0_0, .int .i64 a0_1]] ?_; (with_reducible refine (impl_IsVec.calls _ _ _ _ A3.out).mono ?_); rintro e w12 ⟨rfl, hb⟩; refine ⟨_, rfl, ?_⟩; replace BK762 := bB BK762 hb; replace BK763 := bB BK763 hb; replace HB := bS2 HB GE762 GE763 hb; (try clear hb); obtain ⟨hcz13_0, hcz13_1, hfz13_0, hfz13_1⟩ := bz2 BK763) | (go_at_call 41; (with_reducible refine (impl_IsVec.calls _ _ _ _ A5.out).mono ?_); rintro e w14 ⟨rfl, hb⟩; replace BK762 := bB BK762 hb; replace BK763 := bB BK763 hb; replace HB := bS2 HB GE762 GE763 hb; (try clear hb); obtain ⟨hcz15_0, hcz15_1, hfz15_0, hfz15_1⟩ := bz2 BK762; obtain ⟨hcz16_0, hcz16_1, hfz16_0, hfz16_1⟩ := bz2 BK763) | ((with_reducible refine gate_callee (f := 44) rfl ?_); refine gl 16 Tryz.func44 #[.agg #[.int .i64 a0_0, .int .i64 a0_1], .agg #[.int .i64 a1_0, .int .i64 a1_1]] ?_; (with_reducible refine (impl_det.calls _ _ _ _ _ _ A7.out).mono ?_); rintro e w17 ⟨rfl, hb⟩; refine ⟨_, rfl, ?_⟩; replace BK762 := bB BK762 hb; replace BK763 := bB BK763 hb; replace HB := bS2 HB GE762 GE763 hb; (try clear hb)))
 rotate_left
 go_wp2_with (first | ((with_reducible refine gd 2 rfl ?_); refine bx #[.int .i64 a0_0, .int .i64 a0_1] 31 ?_; intro gb762 hg w18 BK762 hb; have GE762 := ngw0 hg HB; replace HB := bS0 HB hb; clear hb hg) | ((with_reducible refine gd 3 rfl ?_); refine bx #[.int .i64 a1_0, .int .i64 a1_1] 31 ?_; intro gb763 hg w19 BK763 hb; have GE763 := ngw1 hg HB GE762; replace HB := bS1 HB GE762 hb; have NB762_763 := nlt hg BK762; have NB763_762 := nsy (nlt hg BK762); replace BK762 := bB BK762 hb; clear hb hg; have hnb20 := NB762_763.out; have hnc20 := NB763_762.out; obtain ⟨hcz21_0, hcz21_1, hfz21_0, hfz21_1⟩ := bz2 BK762) | ((with_reducible refine gate_callee (f := 41) rfl ?_); refine gl 7 Tryz.func41 #[.agg #[.int .i64 a0_0, .int .i64 a0_1]] ?_; (with_reducible refine (impl_IsVec.calls _ _ _ _ A3.out).mono ?_); rintro e w22 ⟨rfl, hb⟩; refine ⟨_, rfl, ?_⟩; replace BK762 := bB BK762 hb; replace BK763 := bB BK763 hb; replace HB := bS2 HB GE762 GE763 hb; (try clear hb); obtain ⟨hcz23_0, hcz23_1, hfz23_0, hfz23_1⟩ := bz2 BK763) | (go_at_call 41; (with_reducible refine (impl_IsVec.calls _ _ _ _ A5.out).mono ?_); rintro e w24 ⟨rfl, hb⟩; replace BK762 := bB BK762 hb; replace BK763 := bB BK763 hb; replace HB := bS2 HB GE762 GE763 hb; (try clear hb)))
 rotate_left
 go_wp2_with (first | ((with_reducible refine gd 2 rfl ?_); refine bx #[.int .i64 a0_0, .int .i64 a0_1] 31 ?_; intro gb762 hg w25 BK762 hb; have GE762 := ngw0 hg HB; replace HB := bS0 HB hb; clear hb hg) | ((with_reducible refine gd 3 rfl ?_); refine bx #[.int .i64 a1_0, .int .i64 a1_1] 31 ?_; intro gb763 hg w26 BK763 hb; have GE763 := ngw1 hg HB GE762; replace HB := bS1 HB GE762 hb; have NB762_763 := nlt hg BK762; have NB763_762 := nsy (nlt hg BK762); replace BK762 := bB BK762 hb; clear hb hg; have hnb27 := NB762_763.out; have hnc27 := NB763_762.out; obtain ⟨hcz28_0, hcz28_1, hfz28_0, hfz28_1⟩ := bz2 BK762) | ((with_reducible refine gate_callee (f := 41) rfl ?_); refine gl 7 Tryz.func41 #[.agg #[.int .i64 a0_0, .int .i64 a0_1]] ?_; (with_reducible refine (impl_IsVec.calls _ _ _ _ A3.out).mono ?_); rintro e w29 ⟨rfl, hb⟩; refine ⟨_, rfl, ?_⟩; replace BK762 := bB BK762 hb; replace BK763 := bB BK763 hb; replace HB := bS2 HB GE762 GE763 hb; (try clear hb)))
 rotate_left
 all_goals
  go_ret2
  exact er (bbw2 HB GE762 GE763)

end Go.Proofs.YtedmadofpdkekaaGreat.PA
