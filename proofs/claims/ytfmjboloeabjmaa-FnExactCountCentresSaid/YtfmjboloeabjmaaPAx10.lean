/- Walks written by program: each Go function that the law reaches comes to the plain function beside it. -/
import Derived.Test.YtfmjboloeabjmaaPAx0
import Derived.Test.YtfmjboloeabjmaaPAx5
import Derived.Test.YtfmjboloeabjmaaPAx6
namespace Go.Proofs.Ytfmjboloeabjmaa.PA
open Go.RowKit Go.Proofs.YtfmjboloeabjmaaW.PrintWords Go.Proofs.YtfmjboloeabjmaaW.PrintLast Go.Proofs.YtfmjboloeabjmaaW.PrintMore
attribute [local go_sem] max2_int min2_int max_two min_two max_three min_three max_four min_four   -- for this text's walks alone
set_option linter.unusedVariables false
set_option linter.unusedSimpArgs false

/-! ### spec_l05Centre: function 52 -/
def spec_l05Centre.f (k : Nat) (a0_0 : Int) (a0_1 : Int) (a0_2 : Int) (a0_3 : Int) (a0_4 : Int) (a0_5 : Int) : Option (Int × Int × Int) := (spec_l01Divisor.f k (wrap64 ((wrap64 ((wrap64 (1 - a0_3)) * a0_4)) - (wrap64 ((wrap64 (-a0_1)) * a0_5)))) (wrap64 ((wrap64 ((wrap64 (1 - a0_0)) * a0_5)) - (wrap64 ((wrap64 (-a0_2)) * a0_4))))).bind fun t303 => ((spec_l01Divisor.f k t303 (wrap64 ((wrap64 ((wrap64 (1 - a0_0)) * (wrap64 (1 - a0_3)))) - (wrap64 ((wrap64 (-a0_1)) * (wrap64 (-a0_2))))))).bind fun t304 => (if (wrap64 ((wrap64 ((wrap64 (1 - a0_0)) * (wrap64 (1 - a0_3)))) - (wrap64 ((wrap64 (-a0_1)) * (wrap64 (-a0_2)))))) < 0 then (if (wrap64 (-t304)) = 0 then (none) else (some (wrap64 (Int.tdiv (wrap64 ((wrap64 ((wrap64 (1 - a0_3)) * a0_4)) - (wrap64 ((wrap64 (-a0_1)) * a0_5)))) (wrap64 (-t304))), wrap64 (Int.tdiv (wrap64 ((wrap64 ((wrap64 (1 - a0_0)) * a0_5)) - (wrap64 ((wrap64 (-a0_2)) * a0_4)))) (wrap64 (-t304))), wrap64 (Int.tdiv (wrap64 ((wrap64 ((wrap64 (1 - a0_0)) * (wrap64 (1 - a0_3)))) - (wrap64 ((wrap64 (-a0_1)) * (wrap64 (-a0_2)))))) (wrap64 (-t304)))))) else (if t304 = 0 then (none) else (some (wrap64 (Int.tdiv (wrap64 ((wrap64 ((wrap64 (1 - a0_3)) * a0_4)) - (wrap64 ((wrap64 (-a0_1)) * a0_5)))) t304), wrap64 (Int.tdiv (wrap64 ((wrap64 ((wrap64 (1 - a0_0)) * a0_5)) - (wrap64 ((wrap64 (-a0_2)) * a0_4)))) t304), wrap64 (Int.tdiv (wrap64 ((wrap64 ((wrap64 (1 - a0_0)) * (wrap64 (1 - a0_3)))) - (wrap64 ((wrap64 (-a0_1)) * (wrap64 (-a0_2)))))) t304))))))
def spec_l05Centre.T1 : Bool × List (List Nat × List Nat) := (true, [([], []), ([0], [0]), ([1], [1]), ([2], [2]), ([], []), ([4], [4]), ([5], [5]), ([6], [6]), ([], []), ([8], [8]), ([9], [9]), ([10], [10]), ([], []), ([12], [12]), ([13], [13]), ([14], [14]), ([3, 0, 1, 2, 3], [3]), ([7, 16, 0, 1, 2, 3, 4, 5, 6, 7, 16], [7]), ([11, 17, 0, 1, 2, 3, 4, 5, 6, 7, 8, 9, 10, 11, 16, 17], [11]), ([15, 18, 0, 1, 2, 3, 4, 5, 6, 7, 8, 9, 10, 11, 12, 13, 14, 15, 16, 17, 18], [15])])
def spec_l05Centre.B1 : List Nat := [0, 1, 3, 7, 0, 16, 48, 112, 0, 256, 768, 1792, 0, 4096, 12288, 28672, 15, 65791, 200703, 524287]
theorem spec_l05Centre.tab1 : rtab .any (opsOf Try.f52 1) = spec_l05Centre.T1 := by kernel_rfl
theorem spec_l05Centre.bits1 : waitsOk spec_l05Centre.T1.2 spec_l05Centre.B1 = true := by kernel_rfl
def spec_l05Centre.T7 : Bool × List (List Nat × List Nat) := (true, [([], []), ([0], [0]), ([], []), ([1, 2], [1, 2]), ([], []), ([4], [4]), ([], []), ([5, 6], [5, 6]), ([3, 7], [3, 7]), ([], []), ([], []), ([9, 10], [9, 10]), ([8, 0, 1, 2, 3, 4, 5, 6, 7, 8], [8]), ([11, 12, 0, 1, 2, 3, 4, 5, 6, 7, 8, 9, 10, 11, 12], [11])])
def spec_l05Centre.B7 : List Nat := [0, 1, 0, 7, 0, 16, 0, 112, 255, 0, 0, 1536, 511, 8191]
theorem spec_l05Centre.tab7 : rtab .any (opsOf Try.f52 7) = spec_l05Centre.T7 := by kernel_rfl
theorem spec_l05Centre.bits7 : waitsOk spec_l05Centre.T7.2 spec_l05Centre.B7 = true := by kernel_rfl
set_option maxHeartbeats 8000000 in
set_option maxRecDepth 100000 in
theorem spec_l05Centre.calls (k : Nat) (a0_0 : Int) (a0_1 : Int) (a0_2 : Int) (a0_3 : Int) (a0_4 : Int) (a0_5 : Int) (r1 : Int) (r2 : Int) (r3 : Int) (w : World) (h : spec_l05Centre.f k a0_0 a0_1 a0_2 a0_3 a0_4 a0_5 = some (r1, r2, r3)) :
  Calls Try.prog 52 #[.agg #[.int .i64 a0_0, .int .i64 a0_1, .int .i64 a0_2, .int .i64 a0_3, .int .i64 a0_4, .int .i64 a0_5]] w fun e w' => e = .returned (.tuple #[.agg #[.int .i64 r1, .int .i64 r2], .int .i64 r3]) ∧ Below w.heap.size w w' := by
 have hu44 := Try.underlying44
 have hu42 := Try.underlying42
 have HB := asd (Below.refl w.heap.size w)
 have H : ((spec_l01Divisor.f k (wrap64 ((wrap64 ((wrap64 (1 - a0_3)) * a0_4)) - (wrap64 ((wrap64 (-a0_1)) * a0_5)))) (wrap64 ((wrap64 ((wrap64 (1 - a0_0)) * a0_5)) - (wrap64 ((wrap64 (-a0_2)) * a0_4))))).bind fun t303 => ((spec_l01Divisor.f k t303 (wrap64 ((wrap64 ((wrap64 (1 - a0_0)) * (wrap64 (1 - a0_3)))) - (wrap64 ((wrap64 (-a0_1)) * (wrap64 (-a0_2))))))).bind fun t304 => (if (wrap64 ((wrap64 ((wrap64 (1 - a0_0)) * (wrap64 (1 - a0_3)))) - (wrap64 ((wrap64 (-a0_1)) * (wrap64 (-a0_2)))))) < 0 then (if (wrap64 (-t304)) = 0 then (none) else (some (wrap64 (Int.tdiv (wrap64 ((wrap64 ((wrap64 (1 - a0_3)) * a0_4)) - (wrap64 ((wrap64 (-a0_1)) * a0_5)))) (wrap64 (-t304))), wrap64 (Int.tdiv (wrap64 ((wrap64 ((wrap64 (1 - a0_0)) * a0_5)) - (wrap64 ((wrap64 (-a0_2)) * a0_4)))) (wrap64 (-t304))), wrap64 (Int.tdiv (wrap64 ((wrap64 ((wrap64 (1 - a0_0)) * (wrap64 (1 - a0_3)))) - (wrap64 ((wrap64 (-a0_1)) * (wrap64 (-a0_2)))))) (wrap64 (-t304)))))) else (if t304 = 0 then (none) else (some (wrap64 (Int.tdiv (wrap64 ((wrap64 ((wrap64 (1 - a0_3)) * a0_4)) - (wrap64 ((wrap64 (-a0_1)) * a0_5)))) t304), wrap64 (Int.tdiv (wrap64 ((wrap64 ((wrap64 (1 - a0_0)) * a0_5)) - (wrap64 ((wrap64 (-a0_2)) * a0_4)))) t304), wrap64 (Int.tdiv (wrap64 ((wrap64 ((wrap64 (1 - a0_0)) * (wrap64 (1 - a0_3)))) - (wrap64 ((wrap64 (-a0_1)) * (wrap64 (-a0_2)))))) t304))))))) = some (r1, r2, r3) := h
 clear h
 obtain ⟨t303, A2, H⟩ := ob H
 try dsimp only at H
 obtain ⟨t304, A3, H⟩ := ob H
 try dsimp only at H
 by_cases c4 : (wrap64 ((wrap64 ((wrap64 (1 - a0_0)) * (wrap64 (1 - a0_3)))) - (wrap64 ((wrap64 (-a0_1)) * (wrap64 (-a0_2)))))) < 0
 rw [if_pos c4] at H
 have c4b0 := decide_eq_true c4
 clear c4
 by_cases c5 : (wrap64 (-t304)) = 0
 ·rw [if_pos c5] at H
  exact absurd H (by simp)
 rw [if_neg c5] at H
 have c5b0 : ((wrap64 (-t304)) == 0) = false := beq_eq_false_iff_ne.mpr c5
 have c5b1 : ((wrap64 (-t304)) != 0) = true := bne_iff_ne.mpr c5
 rotate_left
 rw [if_neg c4] at H
 have c4b0 := decide_eq_false c4
 clear c4
 by_cases c20 : t304 = 0
 ·rw [if_pos c20] at H
  exact absurd H (by simp)
 rw [if_neg c20] at H
 have c20b0 : (t304 == 0) = false := beq_eq_false_iff_ne.mpr c20
 have c20b1 : (t304 != 0) = true := bne_iff_ne.mpr c20
 rotate_left
 all_goals
  simp only [Option.some.injEq, Prod.mk.injEq] at H
  obtain ⟨rfl, rfl, rfl⟩ := H
  go_enter Try.func52, Try.ntmps52
  try go_wp2_with (first | ((with_reducible refine gd 1 rfl ?_); refine bx #[.int .i64 a0_0, .int .i64 a0_1, .int .i64 a0_2, .int .i64 a0_3, .int .i64 a0_4, .int .i64 a0_5] 44 ?_; intro gb300 hg w6 BK300 hb; have GE300 := ngw0 hg HB; replace HB := bS0 HB hb; clear hb hg) | ((with_reducible refine gd 2 rfl ?_); refine bx #[.int .i64 0, .int .i64 0] 42 ?_; intro gb301 hg w7 BK301 hb; have GE301 := ngw1 hg HB GE300; replace HB := bS1 HB GE300 hb; have NB300_301 := nlt hg BK300; have NB301_300 := nsy (nlt hg BK300); replace BK300 := bB BK300 hb; clear hb hg))
  replace BK300 := asd (blk_drew BK300.out)
  replace BK301 := asd (blk_drew BK301.out)
  replace HB := asd (below_drew1 HB.out)
  refine sh 20 (eb6 BK300) (fun hHeld => ?_); refine with_tabW spec_l05Centre.tab1 spec_l05Centre.bits1 (fun HT_ HW_ => ?_)
  generalize w7.drew = w8 at BK300 BK301 HB hHeld ⊢
  refine pu 0 (some 11) (bT 20 1) HT_ ?_
  refine pu 1 (some 12) (bT 20 2) HT_ ?_
  refine pu 4 (some 15) (bs 20 19) HT_ ?_
  refine pu 5 (some 16) (bs 20 51) HT_ ?_
  refine pu 8 (some 19) (bs 20 307) HT_ ?_
  refine pu 9 (some 20) (bs 20 819) HT_ ?_
  refine pu 12 (some 23) (bs 20 4915) HT_ ?_
  refine pu 13 (some 24) (bs 20 13107) HT_ ?_
  refine ta 2 (some 13) (bs 20 13111) HT_ HW_ hHeld ?_
  refine pu 3 (some 14) (bs 20 13119) HT_ ?_
  refine pu 16 (some 4) (bs 20 78655) HT_ ?_
  refine ta 6 (some 17) (bs 20 78719) HT_ HW_ hHeld ?_
  refine pu 7 (some 18) (bs 20 78847) HT_ ?_
  refine pu 17 (some 5) (bs 20 209919) HT_ ?_
  refine ta 10 (some 21) (bs 20 210943) HT_ HW_ hHeld ?_
  refine pu 11 (some 22) (bs 20 212991) HT_ ?_
  refine pu 18 (some 6) (bs 20 475135) HT_ ?_
  refine ta 14 (some 25) (bs 20 491519) HT_ HW_ hHeld ?_
  refine pu 15 (some 26) (bT 20 19) HT_ ?_
  refine pu 19 (some 7) (bT 20 20) HT_ ?_
  refine done_ (done_of HT_.out (by kernel_rfl)) ?_
  have hnb9 := NB300_301.out
  have hnc9 := NB301_300.out
  obtain ⟨hcz10_0, hcz10_1, hcz10_2, hcz10_3, hcz10_4, hcz10_5, hfz10_0, hfz10_1, hfz10_2, hfz10_3, hfz10_4, hfz10_5⟩ := bz6 BK300
  try go_wp2_with (first | ((with_reducible refine gd 9 rfl ?_); refine bx #[.int .i64 0, .int .i64 0] 42 ?_; intro gb302 hg w11 BK302 hb; have GE302 := ngw2 hg HB GE300 GE301; replace HB := bS2 HB GE300 GE301 hb; have NB300_302 := nlt hg BK300; have NB302_300 := nsy (nlt hg BK300); replace BK300 := bB BK300 hb; have NB301_302 := nlt hg BK301; have NB302_301 := nsy (nlt hg BK301); replace BK301 := bB BK301 hb; clear hb hg; have hnb12 := NB302_300.out; have hnc12 := NB300_302.out; have hnb13 := NB302_301.out; have hnc13 := NB301_302.out; obtain ⟨hcz14_0, hcz14_1, hfz14_0, hfz14_1⟩ := bz2 BK302) | ((with_reducible refine gate_callee (f := 70) rfl ?_); refine gl 61 Try.func70 #[.int .i64 (wrap64 ((wrap64 ((wrap64 (1 - a0_3)) * a0_4)) - (wrap64 ((wrap64 (-a0_1)) * a0_5)))), .int .i64 (wrap64 ((wrap64 ((wrap64 (1 - a0_0)) * a0_5)) - (wrap64 ((wrap64 (-a0_2)) * a0_4))))] ?_; (with_reducible refine (spec_l01Divisor.calls _ _ _ _ _ A2.out).mono ?_); rintro e w15 ⟨rfl, hb⟩; refine ⟨_, rfl, ?_⟩; replace BK300 := asd (blk_below (g := gb300) (o := .cells #[.int .i64 a0_0, .int .i64 a0_1, .int .i64 a0_2, .int .i64 a0_3, .int .i64 a0_4, .int .i64 a0_5] 44 (0, 0)) (bq1 BK300 NB300_302) hb); replace BK301 := asd (blk_below (g := gb301) (o := .cells #[.int .i64 0, .int .i64 0] 42 (0, 0)) (bq1 BK301 NB301_302) hb); replace BK302 := asd (blk_below (g := gb302) (o := .cells #[.int .i64 (wrap64 ((wrap64 ((wrap64 (1 - a0_3)) * a0_4)) - (wrap64 ((wrap64 (-a0_1)) * a0_5)))), .int .i64 (wrap64 ((wrap64 ((wrap64 (1 - a0_0)) * a0_5)) - (wrap64 ((wrap64 (-a0_2)) * a0_4))))] 42 (0, 0)) (bq0 BK302) hb); replace HB := bS3 HB GE300 GE301 GE302 hb; (try clear hb)) | ((with_reducible refine gate_callee (f := 70) rfl ?_); refine gl 63 Try.func70 #[.int .i64 t303, .int .i64 (wrap64 ((wrap64 ((wrap64 (1 - a0_0)) * (wrap64 (1 - a0_3)))) - (wrap64 ((wrap64 (-a0_1)) * (wrap64 (-a0_2))))))] ?_; (with_reducible refine (spec_l01Divisor.calls _ _ _ _ _ A3.out).mono ?_); rintro e w16 ⟨rfl, hb⟩; refine ⟨_, rfl, ?_⟩; replace BK300 := bB BK300 hb; replace BK301 := bB BK301 hb; replace BK302 := bB BK302 hb; replace HB := bS3 HB GE300 GE301 GE302 hb; (try clear hb)))
  replace BK300 := asd (blk_drew BK300.out)
  replace BK301 := asd (blk_drew BK301.out)
  replace BK302 := asd (blk_drew BK302.out)
  replace HB := asd (below_drew1 HB.out)
  refine sh 14 (eb2 BK302) (fun hHeld => ?_); refine with_tabW spec_l05Centre.tab7 spec_l05Centre.bits7 (fun HT_ HW_ => ?_)
  generalize w16.drew = w17 at BK300 BK301 BK302 HB hHeld ⊢
  refine pu 0 (some 68) (bT 14 1) HT_ ?_
  refine pu 2 (some 70) (bs 14 5) HT_ ?_
  refine pu 4 (some 72) (bs 14 21) HT_ ?_
  refine pu 6 (some 74) (bs 14 85) HT_ ?_
  refine pu 9 (some 77) (bs 14 597) HT_ ?_
  refine pu 10 (some 78) (bs 14 1621) HT_ ?_
  refine pu 11 (some 79) (bs 14 3669) HT_ ?_
  refine ta 1 (some 69) (bs 14 3671) HT_ HW_ hHeld ?_
  refine pu 3 (some 71) (bs 14 3679) HT_ ?_
  refine ta 5 (some 73) (bs 14 3711) HT_ HW_ hHeld ?_
  refine pu 7 (some 75) (bs 14 3839) HT_ ?_
  refine pu 8 (some 76) (bT 14 12) HT_ ?_
  refine ro 12 (none) (bT 14 13) HT_ (fun K hK => ?_)
  have hs18 : w17.cell? ⟨gb301, 0, none⟩ = some (.int .i64 0) := bcl BK301 0
  have hfs18 := blk_frozen BK301.out 0
  have hns18_0 := NB300_301.out
  have hns18_2 := NB302_301.out
  have hms18_0 := NB301_300.out
  have hms18_2 := NB301_302.out
  have hs19 : w17.cell? ⟨gb301, 1, none⟩ = some (.int .i64 0) := bcl BK301 1
  have hfs19 := blk_frozen BK301.out 1
  have hns19_0 := NB300_301.out
  have hns19_2 := NB302_301.out
  have hms19_0 := NB301_300.out
  have hms19_2 := NB301_302.out
  refine skip_ (w1 := ?_) (by rfl) rfl ?_ ?_
  rotate_left
  ·go_simp
   rfl
  refine hK.out _ _ ⟨(cf2 NB302_301 (hHeld.1)), (cf2 NB302_301 (hHeld.2))⟩ (fun hHeld => ?_)
  clear hK K
  refine pu 13 (some 3) (bT 14 14) HT_ ?_
  refine done_ (done_of HT_.out (by kernel_rfl)) ?_
  try go_wp2
 ·refine bodyPost_ret (results_ct rfl _ _ gb301 42 #[.int .i64 (wrap64 (Int.tdiv (wrap64 ((wrap64 ((wrap64 (1 - a0_3)) * a0_4)) - (wrap64 ((wrap64 (-a0_1)) * a0_5)))) (wrap64 (-t304)))), .int .i64 (wrap64 (Int.tdiv (wrap64 ((wrap64 ((wrap64 (1 - a0_0)) * a0_5)) - (wrap64 ((wrap64 (-a0_2)) * a0_4)))) (wrap64 (-t304))))] (0, 0) _ rfl (bq0 BK301) Try.underlying42 rfl (by kernel_rfl)) rfl ?_
  exact er (bbw3 HB GE300 GE301 GE302)
 ·refine bodyPost_ret (results_ct rfl _ _ gb301 42 #[.int .i64 (wrap64 (Int.tdiv (wrap64 ((wrap64 ((wrap64 (1 - a0_3)) * a0_4)) - (wrap64 ((wrap64 (-a0_1)) * a0_5)))) t304)), .int .i64 (wrap64 (Int.tdiv (wrap64 ((wrap64 ((wrap64 (1 - a0_0)) * a0_5)) - (wrap64 ((wrap64 (-a0_2)) * a0_4)))) t304))] (0, 0) _ rfl (bq0 BK301) Try.underlying42 rfl (by kernel_rfl)) rfl ?_
  exact er (bbw3 HB GE300 GE301 GE302)
/-! ### spec_l11Class: function 31 -/
def spec_l11Class.f (k : Nat) (a0_0 : Int) (a0_1 : Int) (a0_2 : Int) (a1_0 : Int) (a1_1 : Int) (a1_2 : Int) (a1_3 : Int) (a1_4 : Int) (a1_5 : Int) : Option (Int × Int) := (spec_l05Centre.f k a1_0 a1_1 a1_2 a1_3 a1_4 a1_5).bind fun bt308 => (if bt308.2.2 = 0 then (none) else ((spec_l01Scale.f bt308.1 bt308.2.1 (wrap64 (Int.tdiv 12 bt308.2.2))).bind fun bt312 => ((spec_l01Mod.f bt312.2 (wrap64 (12 * a0_2))).bind fun t314 => (if (wrap64 (12 * a0_2)) = 0 then (none) else ((spec_l01Mod.f (wrap64 (bt312.1 - (wrap64 ((wrap64 (12 * (wrap64 (Int.tdiv (wrap64 (bt312.2 - t314)) (wrap64 (12 * a0_2)))))) * a0_1)))) (wrap64 (12 * a0_0))).bind fun t315 => (some (t315, t314)))))))
set_option maxHeartbeats 8000000 in
set_option maxRecDepth 100000 in
theorem spec_l11Class.calls (k : Nat) (a0_0 : Int) (a0_1 : Int) (a0_2 : Int) (a1_0 : Int) (a1_1 : Int) (a1_2 : Int) (a1_3 : Int) (a1_4 : Int) (a1_5 : Int) (r1 : Int) (r2 : Int) (w : World) (h : spec_l11Class.f k a0_0 a0_1 a0_2 a1_0 a1_1 a1_2 a1_3 a1_4 a1_5 = some (r1, r2)) :
  Calls Try.prog 31 #[.agg #[.int .i64 a0_0, .int .i64 a0_1, .int .i64 a0_2], .agg #[.int .i64 a1_0, .int .i64 a1_1, .int .i64 a1_2, .int .i64 a1_3, .int .i64 a1_4, .int .i64 a1_5]] w fun e w' => e = .returned (.agg #[.int .i64 r1, .int .i64 r2]) ∧ Below w.heap.size w w' := by
 have hu28 := Try.underlying28
 have hu44 := Try.underlying44
 have hu42 := Try.underlying42
 have HB := asd (Below.refl w.heap.size w)
 have H : ((spec_l05Centre.f k a1_0 a1_1 a1_2 a1_3 a1_4 a1_5).bind fun bt308 => (if bt308.2.2 = 0 then (none) else ((spec_l01Scale.f bt308.1 bt308.2.1 (wrap64 (Int.tdiv 12 bt308.2.2))).bind fun bt312 => ((spec_l01Mod.f bt312.2 (wrap64 (12 * a0_2))).bind fun t314 => (if (wrap64 (12 * a0_2)) = 0 then (none) else ((spec_l01Mod.f (wrap64 (bt312.1 - (wrap64 ((wrap64 (12 * (wrap64 (Int.tdiv (wrap64 (bt312.2 - t314)) (wrap64 (12 * a0_2)))))) * a0_1)))) (wrap64 (12 * a0_0))).bind fun t315 => (some (t315, t314)))))))) = some (r1, r2) := h
 clear h
 obtain ⟨⟨t308, t309, t310⟩, A3, H⟩ := ob H
 try dsimp only at H
 by_cases c4 : t310 = 0
 ·rw [if_pos c4] at H
  exact absurd H (by simp)
 ·rw [if_neg c4] at H
  have c4b0 : (t310 == 0) = false := beq_eq_false_iff_ne.mpr c4
  have c4b1 : (t310 != 0) = true := bne_iff_ne.mpr c4
  obtain ⟨⟨t312, t313⟩, A5, H⟩ := ob H
  try dsimp only at H
  obtain ⟨t314, A6, H⟩ := ob H
  try dsimp only at H
  by_cases c7 : (wrap64 (12 * a0_2)) = 0
  ·rw [if_pos c7] at H
   exact absurd H (by simp)
  ·rw [if_neg c7] at H
   have c7b0 : ((wrap64 (12 * a0_2)) == 0) = false := beq_eq_false_iff_ne.mpr c7
   have c7b1 : ((wrap64 (12 * a0_2)) != 0) = true := bne_iff_ne.mpr c7
   obtain ⟨t315, A8, H⟩ := ob H
   try dsimp only at H
   simp only [Option.some.injEq, Prod.mk.injEq] at H
   obtain ⟨rfl, rfl⟩ := H
   go_enter Try.func31, Try.ntmps31
   try go_wp2_with (first | ((with_reducible refine gd 2 rfl ?_); refine bx #[.int .i64 a0_0, .int .i64 a0_1, .int .i64 a0_2] 28 ?_; intro gb305 hg w9 BK305 hb; have GE305 := ngw0 hg HB; replace HB := bS0 HB hb; clear hb hg) | ((with_reducible refine gd 3 rfl ?_); refine bx #[.int .i64 a1_0, .int .i64 a1_1, .int .i64 a1_2, .int .i64 a1_3, .int .i64 a1_4, .int .i64 a1_5] 44 ?_; intro gb306 hg w10 BK306 hb; have GE306 := ngw1 hg HB GE305; replace HB := bS1 HB GE305 hb; have NB305_306 := nlt hg BK305; have NB306_305 := nsy (nlt hg BK305); replace BK305 := bB BK305 hb; clear hb hg) | ((with_reducible refine gd 4 rfl ?_); refine bx #[.int .i64 0, .int .i64 0] 42 ?_; intro gb307 hg w11 BK307 hb; have GE307 := ngw2 hg HB GE305 GE306; replace HB := bS2 HB GE305 GE306 hb; have NB305_307 := nlt hg BK305; have NB307_305 := nsy (nlt hg BK305); replace BK305 := bB BK305 hb; have NB306_307 := nlt hg BK306; have NB307_306 := nsy (nlt hg BK306); replace BK306 := bB BK306 hb; clear hb hg; have hnb12 := NB306_305.out; have hnc12 := NB305_306.out; have hnb13 := NB306_307.out; have hnc13 := NB307_306.out; obtain ⟨hcz14_0, hcz14_1, hcz14_2, hcz14_3, hcz14_4, hcz14_5, hfz14_0, hfz14_1, hfz14_2, hfz14_3, hfz14_4, hfz14_5⟩ := bz6 BK306) | ((with_reducible refine gate_callee (f := 52) rfl ?_); refine gl 11 Try.func52 #[.agg #[.int .i64 a1_0, .int .i64 a1_1, .int .i64 a1_2, .int .i64 a1_3, .int .i64 a1_4, .int .i64 a1_5]] ?_; (with_reducible refine (spec_l05Centre.calls _ _ _ _ _ _ _ _ _ _ _ A3.out).mono ?_); rintro e w15 ⟨rfl, hb⟩; refine ⟨_, rfl, ?_⟩; replace BK305 := bB BK305 hb; replace BK306 := bB BK306 hb; replace BK307 := bB BK307 hb; replace HB := bS3 HB GE305 GE306 GE307 hb; (try clear hb)) | ((with_reducible refine gd 5 rfl ?_); refine bx #[.int .i64 0, .int .i64 0] 42 ?_; intro gb311 hg w16 BK311 hb; have GE311 := ngw3 hg HB GE305 GE306 GE307; replace HB := bS3 HB GE305 GE306 GE307 hb; have NB305_311 := nlt hg BK305; have NB311_305 := nsy (nlt hg BK305); replace BK305 := bB BK305 hb; have NB306_311 := nlt hg BK306; have NB311_306 := nsy (nlt hg BK306); replace BK306 := bB BK306 hb; have NB307_311 := nlt hg BK307; have NB311_307 := nsy (nlt hg BK307); replace BK307 := bB BK307 hb; clear hb hg; have hnb17 := NB311_305.out; have hnc17 := NB305_311.out; have hnb18 := NB311_306.out; have hnc18 := NB306_311.out; have hnb19 := NB311_307.out; have hnc19 := NB307_311.out; obtain ⟨hcz20_0, hcz20_1, hfz20_0, hfz20_1⟩ := bz2 BK311))
   obtain ⟨w21, h_w21⟩ : ∃ w_, ((w16.setCell ⟨gb311, 0, none⟩ (.int .i64 t308)).setCell ⟨gb311, 1, none⟩ (.int .i64 t309)) = w_ := ⟨_, rfl⟩
   replace BK305 : Aside0 (w21.heap[gb305]? = some (.cells #[.int .i64 a0_0, .int .i64 a0_1, .int .i64 a0_2] 28 (0, 0))) := by rw [← h_w21]; exact ⟨bq1 BK305 NB305_311⟩
   replace BK306 : Aside0 (w21.heap[gb306]? = some (.cells #[.int .i64 a1_0, .int .i64 a1_1, .int .i64 a1_2, .int .i64 a1_3, .int .i64 a1_4, .int .i64 a1_5] 44 (0, 0))) := by rw [← h_w21]; exact ⟨bq1 BK306 NB306_311⟩
   replace BK307 : Aside0 (w21.heap[gb307]? = some (.cells #[.int .i64 0, .int .i64 0] 42 (0, 0))) := by rw [← h_w21]; exact ⟨bq1 BK307 NB307_311⟩
   replace BK311 : Aside0 (w21.heap[gb311]? = some (.cells #[.int .i64 t308, .int .i64 t309] 42 (0, 0))) := by rw [← h_w21]; exact ⟨bq0 BK311⟩
   replace HB : Aside0 (Below w.heap.size w w21) := by rw [← h_w21]; exact ⟨bbw4 HB GE305 GE306 GE307 GE311⟩
   (try rw [h_w21]); clear h_w21
   replace BK305 := asd (blk_drew BK305.out)
   replace BK306 := asd (blk_drew BK306.out)
   replace BK307 := asd (blk_drew BK307.out)
   replace BK311 := asd (blk_drew BK311.out)
   replace HB := asd (below_drew1 HB.out)
   refine start_ (n := 5) (S := fun w' => w'.cell? ⟨gb311, 0, none⟩ = some (.int .i64 t308) ∧ w'.cell? ⟨gb311, 1, none⟩ = some (.int .i64 t309)) (ds := [4]) (bT 5 0) (by kernel_rfl) rfl rfl ⟨bcl BK311 0, bcl BK311 1⟩ (fun hHeld => ?_)
   generalize w21.drew = w22 at BK305 BK306 BK307 BK311 HB hHeld ⊢
   refine pure_ (i := 1) (N := some 15) (v := ?_) (a' := ?_) #[false, true, false, false, false] rfl rfl (by kernel_rfl) (fun _ _ _ h => h) (Or.inl ⟨by rfl, ?_⟩) ?_ ?_
   rotate_left
   ·intro w'
    go_simp
    with_reducible rfl
   rotate_left
   ·simp only [Act.put, sA, sB, sC, i64_w, i32_w]
    rfl
   refine pure_ (i := 2) (N := some 16) (v := ?_) (a' := ?_) #[false, true, true, false, false] rfl rfl (by kernel_rfl) (fun _ _ _ h => h) (Or.inl ⟨by rfl, ?_⟩) ?_ ?_
   rotate_left
   ·intro w'
    go_simp
    with_reducible rfl
   rotate_left
   ·simp only [Act.put, sA, sB, sC, i64_w, i32_w]
    rfl
   refine take_ (i := 0) (N := some 14) (v := ?_) (a' := ?_) (bT 5 3) rfl rfl (by kernel_rfl) (fun _ _ _ h => h) (Or.inl ⟨by rfl, ?_⟩) hHeld ?_ ?_
   rotate_left
   ·rintro w' ⟨s0, s1⟩
    go_simp
    with_reducible rfl
   rotate_left
   ·simp only [Act.put, sA, sB, sC, i64_w, i32_w]
    rfl
   refine one_ (i := 3) (N := some 17) (bT 5 4) rfl rfl (by kernel_rfl) (by decide) (fun K hK => ?_)
   refine gs Try.func29 #[.agg #[.int .i64 t308, .int .i64 t309], .int .i64 (wrap64 (Int.tdiv 12 t310))] ?_
   with_reducible refine (spec_l01Scale.calls _ _ _ _ _ _ A5.out).mono ?_
   rintro e w23 ⟨rfl, hb⟩
   refine ⟨_, rfl, ?_⟩
   replace BK305 := bB BK305 hb
   replace BK306 := bB BK306 hb
   replace BK307 := bB BK307 hb
   replace BK311 := bB BK311 hb
   replace HB := bS4 HB GE305 GE306 GE307 GE311 hb
   (try clear hb)
   (try clear hb2)
   (try clear hk)
   (try clear hi)
   refine hK.out _ _ (eb2 BK311).out (fun hHeld => ?_)
   clear hK K
   refine norm_ (a' := ?_) ?_ ?_
   rotate_left
   ·show Act.put _ (some 17) _ = _
    simp only [Act.put, sA, sB, sC, i64_w, i32_w]
    rfl
   refine last_ (i := 4) (N := none) (bT 5 5) rfl rfl (by kernel_rfl) (by decide) (fun K hK => ?_)
   have hs24 : w23.cell? ⟨gb311, 0, none⟩ = some (.int .i64 t308) := bcl BK311 0
   have hfs24 := blk_frozen BK311.out 0
   have hns24_0 := NB305_311.out
   have hns24_1 := NB306_311.out
   have hns24_2 := NB307_311.out
   have hms24_0 := NB311_305.out
   have hms24_1 := NB311_306.out
   have hms24_2 := NB311_307.out
   have hs25 : w23.cell? ⟨gb311, 1, none⟩ = some (.int .i64 t309) := bcl BK311 1
   have hfs25 := blk_frozen BK311.out 1
   have hns25_0 := NB305_311.out
   have hns25_1 := NB306_311.out
   have hns25_2 := NB307_311.out
   have hms25_0 := NB311_305.out
   have hms25_1 := NB311_306.out
   have hms25_2 := NB311_307.out
   refine skip_ (w1 := ?_) (by rfl) rfl ?_ ?_
   rotate_left
   ·go_simp
    rfl
   refine hK.out _ _ ?_
   clear hK K
   refine done_ (by kernel_rfl) ?_
   obtain ⟨hcz26_0, hcz26_1, hfz26_0, hfz26_1⟩ := bz2 BK311
   have hnb27 := NB305_307.out
   have hnc27 := NB307_305.out
   obtain ⟨hcz28_0, hcz28_1, hcz28_2, hfz28_0, hfz28_1, hfz28_2⟩ := bz3 BK305
   try go_wp2_with (first | ((with_reducible refine gate_callee (f := 53) rfl ?_); refine gl 23 Try.func53 #[.int .i64 t313, .int .i64 (wrap64 (12 * a0_2))] ?_; (with_reducible refine (spec_l01Mod.calls _ _ _ _ A6.out).mono ?_); rintro e w' ⟨rfl, ⟨nd, rfl⟩⟩; refine ⟨_, rfl, ?_⟩) | ((with_reducible refine gate_callee (f := 53) rfl ?_); refine gl 43 Try.func53 #[.int .i64 (wrap64 (t312 - (wrap64 ((wrap64 (12 * (wrap64 (Int.tdiv (wrap64 (t313 - t314)) (wrap64 (12 * a0_2)))))) * a0_1)))), .int .i64 (wrap64 (12 * a0_0))] ?_; (with_reducible refine (spec_l01Mod.calls _ _ _ _ A8.out).mono ?_); rintro e w' ⟨rfl, ⟨nd, rfl⟩⟩; refine ⟨_, rfl, ?_⟩; have hcz29_0 : w23.cell? ⟨gb307, 0, none⟩ = some (.int .i64 0) := bcl BK307 0; have hcz29_1 : w23.cell? ⟨gb307, 1, none⟩ = some (.int .i64 0) := bcl BK307 1; have hfz29_0 := blk_frozen BK307.out 0; have hfz29_1 := blk_frozen BK307.out 1))
   refine bodyPost_ret (results_cell_row rfl _ _ gb307 42 #[.int .i64 t315, .int .i64 t314] (0, 0) _ rfl (bq1 BK307 NB307_311) Try.underlying42 rfl (by kernel_rfl)) rfl ?_
   exact er (bbw4 HB GE305 GE306 GE307 GE311)

end Go.Proofs.Ytfmjboloeabjmaa.PA
