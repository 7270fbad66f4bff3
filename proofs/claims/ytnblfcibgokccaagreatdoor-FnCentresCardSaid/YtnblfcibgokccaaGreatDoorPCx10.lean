/- Walks written by program: each Go function that the law reaches comes to the plain function beside it. -/
import Derived.Test.YtnblfcibgokccaaGreatDoorPCx0
import Derived.Test.YtnblfcibgokccaaGreatDoorPCx6
import Derived.Test.YtnblfcibgokccaaGreatDoorPCx7
import Derived.Test.YtnblfcibgokccaaGreatDoorPCx8
import Derived.Test.YtnblfcibgokccaaGreatDoorPCx9
namespace Go.Proofs.YtnblfcibgokccaaGreatDoor.PC
open Go.RowKit Go.Proofs.YtnblfcibgokccaaGreatDoorW.PrintWords Go.Proofs.YtnblfcibgokccaaGreatDoorW.PrintLast Go.Proofs.YtnblfcibgokccaaGreatDoorW.PrintMore
attribute [local go_sem] max2_int min2_int max_two min_two max_three min_three max_four min_four   -- for this text's walks alone
set_option linter.unusedVariables false
set_option linter.unusedSimpArgs false

/-! ### spec_l05Centre: function 40 -/
def spec_l05Centre.f (k : Nat) (a0_0 : Int) (a0_1 : Int) (a0_2 : Int) (a0_3 : Int) (a0_4 : Int) (a0_5 : Int) : Option (Int × Int × Int) := (spec_l01Divisor.f k (wrap64 ((wrap64 ((wrap64 (1 - a0_3)) * a0_4)) - (wrap64 ((wrap64 (-a0_1)) * a0_5)))) (wrap64 ((wrap64 ((wrap64 (1 - a0_0)) * a0_5)) - (wrap64 ((wrap64 (-a0_2)) * a0_4))))).bind fun t458 => ((spec_l01Divisor.f k t458 (wrap64 ((wrap64 ((wrap64 (1 - a0_0)) * (wrap64 (1 - a0_3)))) - (wrap64 ((wrap64 (-a0_1)) * (wrap64 (-a0_2))))))).bind fun t459 => (if (wrap64 ((wrap64 ((wrap64 (1 - a0_0)) * (wrap64 (1 - a0_3)))) - (wrap64 ((wrap64 (-a0_1)) * (wrap64 (-a0_2)))))) < 0 then (if (wrap64 (-t459)) = 0 then (none) else (some (wrap64 (Int.tdiv (wrap64 ((wrap64 ((wrap64 (1 - a0_3)) * a0_4)) - (wrap64 ((wrap64 (-a0_1)) * a0_5)))) (wrap64 (-t459))), wrap64 (Int.tdiv (wrap64 ((wrap64 ((wrap64 (1 - a0_0)) * a0_5)) - (wrap64 ((wrap64 (-a0_2)) * a0_4)))) (wrap64 (-t459))), wrap64 (Int.tdiv (wrap64 ((wrap64 ((wrap64 (1 - a0_0)) * (wrap64 (1 - a0_3)))) - (wrap64 ((wrap64 (-a0_1)) * (wrap64 (-a0_2)))))) (wrap64 (-t459)))))) else (if t459 = 0 then (none) else (some (wrap64 (Int.tdiv (wrap64 ((wrap64 ((wrap64 (1 - a0_3)) * a0_4)) - (wrap64 ((wrap64 (-a0_1)) * a0_5)))) t459), wrap64 (Int.tdiv (wrap64 ((wrap64 ((wrap64 (1 - a0_0)) * a0_5)) - (wrap64 ((wrap64 (-a0_2)) * a0_4)))) t459), wrap64 (Int.tdiv (wrap64 ((wrap64 ((wrap64 (1 - a0_0)) * (wrap64 (1 - a0_3)))) - (wrap64 ((wrap64 (-a0_1)) * (wrap64 (-a0_2)))))) t459))))))
def spec_l05Centre.T1 : Bool × List (List Nat × List Nat) := (true, [([], []), ([0], [0]), ([1], [1]), ([2], [2]), ([], []), ([4], [4]), ([5], [5]), ([6], [6]), ([], []), ([8], [8]), ([9], [9]), ([10], [10]), ([], []), ([12], [12]), ([13], [13]), ([14], [14]), ([3, 0, 1, 2, 3], [3]), ([7, 16, 0, 1, 2, 3, 4, 5, 6, 7, 16], [7]), ([11, 17, 0, 1, 2, 3, 4, 5, 6, 7, 8, 9, 10, 11, 16, 17], [11]), ([15, 18, 0, 1, 2, 3, 4, 5, 6, 7, 8, 9, 10, 11, 12, 13, 14, 15, 16, 17, 18], [15])])
def spec_l05Centre.B1 : List Nat := [0, 1, 3, 7, 0, 16, 48, 112, 0, 256, 768, 1792, 0, 4096, 12288, 28672, 15, 65791, 200703, 524287]
theorem spec_l05Centre.tab1 : rtab .any (opsOf Tryz.f40 1) = spec_l05Centre.T1 := by kernel_rfl
theorem spec_l05Centre.bits1 : waitsOk spec_l05Centre.T1.2 spec_l05Centre.B1 = true := by kernel_rfl
def spec_l05Centre.T7 : Bool × List (List Nat × List Nat) := (true, [([], []), ([0], [0]), ([], []), ([1, 2], [1, 2]), ([], []), ([4], [4]), ([], []), ([5, 6], [5, 6]), ([3, 7], [3, 7]), ([], []), ([], []), ([9, 10], [9, 10]), ([8, 0, 1, 2, 3, 4, 5, 6, 7, 8], [8]), ([11, 12, 0, 1, 2, 3, 4, 5, 6, 7, 8, 9, 10, 11, 12], [11])])
def spec_l05Centre.B7 : List Nat := [0, 1, 0, 7, 0, 16, 0, 112, 255, 0, 0, 1536, 511, 8191]
theorem spec_l05Centre.tab7 : rtab .any (opsOf Tryz.f40 7) = spec_l05Centre.T7 := by kernel_rfl
theorem spec_l05Centre.bits7 : waitsOk spec_l05Centre.T7.2 spec_l05Centre.B7 = true := by kernel_rfl
set_option maxHeartbeats 8000000 in
set_option maxRecDepth 100000 in
theorem spec_l05Centre.calls (k : Nat) (a0_0 : Int) (a0_1 : Int) (a0_2 : Int) (a0_3 : Int) (a0_4 : Int) (a0_5 : Int) (r1 : Int) (r2 : Int) (r3 : Int) (w : World) (h : spec_l05Centre.f k a0_0 a0_1 a0_2 a0_3 a0_4 a0_5 = some (r1, r2, r3)) :
  Calls Tryz.prog 40 #[.agg #[.int .i64 a0_0, .int .i64 a0_1, .int .i64 a0_2, .int .i64 a0_3, .int .i64 a0_4, .int .i64 a0_5]] w fun e w' => e = .returned (.tuple #[.agg #[.int .i64 r1, .int .i64 r2], .int .i64 r3]) ∧ Below w.heap.size w w' := by
 have hu29 := Tryz.underlying29
 have hu27 := Tryz.underlying27
 have HB := asd (Below.refl w.heap.size w)
 have H : ((spec_l01Divisor.f k (wrap64 ((wrap64 ((wrap64 (1 - a0_3)) * a0_4)) - (wrap64 ((wrap64 (-a0_1)) * a0_5)))) (wrap64 ((wrap64 ((wrap64 (1 - a0_0)) * a0_5)) - (wrap64 ((wrap64 (-a0_2)) * a0_4))))).bind fun t458 => ((spec_l01Divisor.f k t458 (wrap64 ((wrap64 ((wrap64 (1 - a0_0)) * (wrap64 (1 - a0_3)))) - (wrap64 ((wrap64 (-a0_1)) * (wrap64 (-a0_2))))))).bind fun t459 => (if (wrap64 ((wrap64 ((wrap64 (1 - a0_0)) * (wrap64 (1 - a0_3)))) - (wrap64 ((wrap64 (-a0_1)) * (wrap64 (-a0_2)))))) < 0 then (if (wrap64 (-t459)) = 0 then (none) else (some (wrap64 (Int.tdiv (wrap64 ((wrap64 ((wrap64 (1 - a0_3)) * a0_4)) - (wrap64 ((wrap64 (-a0_1)) * a0_5)))) (wrap64 (-t459))), wrap64 (Int.tdiv (wrap64 ((wrap64 ((wrap64 (1 - a0_0)) * a0_5)) - (wrap64 ((wrap64 (-a0_2)) * a0_4)))) (wrap64 (-t459))), wrap64 (Int.tdiv (wrap64 ((wrap64 ((wrap64 (1 - a0_0)) * (wrap64 (1 - a0_3)))) - (wrap64 ((wrap64 (-a0_1)) * (wrap64 (-a0_2)))))) (wrap64 (-t459)))))) else (if t459 = 0 then (none) else (some (wrap64 (Int.tdiv (wrap64 ((wrap64 ((wrap64 (1 - a0_3)) * a0_4)) - (wrap64 ((wrap64 (-a0_1)) * a0_5)))) t459), wrap64 (Int.tdiv (wrap64 ((wrap64 ((wrap64 (1 - a0_0)) * a0_5)) - (wrap64 ((wrap64 (-a0_2)) * a0_4)))) t459), wrap64 (Int.tdiv (wrap64 ((wrap64 ((wrap64 (1 - a0_0)) * (wrap64 (1 - a0_3)))) - (wrap64 ((wrap64 (-a0_1)) * (wrap64 (-a0_2)))))) t459))))))) = some (r1, r2, r3) := h
 clear h
 obtain ⟨t458, A2, H⟩ := ob H
 try dsimp only at H
 obtain ⟨t459, A3, H⟩ := ob H
 try dsimp only at H
 by_cases c4 : (wrap64 ((wrap64 ((wrap64 (1 - a0_0)) * (wrap64 (1 - a0_3)))) - (wrap64 ((wrap64 (-a0_1)) * (wrap64 (-a0_2)))))) < 0
 rw [if_pos c4] at H
 have c4b0 := decide_eq_true c4
 clear c4
 by_cases c5 : (wrap64 (-t459)) = 0
 ·rw [if_pos c5] at H
  exact absurd H (by simp)
 rw [if_neg c5] at H
 have c5b0 : ((wrap64 (-t459)) == 0) = false := beq_eq_false_iff_ne.mpr c5
 have c5b1 : ((wrap64 (-t459)) != 0) = true := bne_iff_ne.mpr c5
 rotate_left
 rw [if_neg c4] at H
 have c4b0 := decide_eq_false c4
 clear c4
 by_cases c20 : t459 = 0
 ·rw [if_pos c20] at H
  exact absurd H (by simp)
 rw [if_neg c20] at H
 have c20b0 : (t459 == 0) = false := beq_eq_false_iff_ne.mpr c20
 have c20b1 : (t459 != 0) = true := bne_iff_ne.mpr c20
 rotate_left
 all_goals
  simp only [Option.some.injEq, Prod.mk.injEq] at H
  obtain ⟨rfl, rfl, rfl⟩ := H
  go_enter Tryz.func40, Tryz.ntmps40
  try go_wp2_with (first | ((with_reducible refine gd 1 rfl ?_); refine bx #[.int .i64 a0_0, .int .i64 a0_1, .int .i64 a0_2, .int .i64 a0_3, .int .i64 a0_4, .int .i64 a0_5] 29 ?_; intro gb455 hg w6 BK455 hb; have GE455 := ngw0 hg HB; replace HB := bS0 HB hb; clear hb hg) | ((with_reducible refine gd 2 rfl ?_); refine bx #[.int .i64 0, .int .i64 0] 27 ?_; intro gb456 hg w7 BK456 hb; have GE456 := ngw1 hg HB GE455; replace HB := bS1 HB GE455 hb; have NB455_456 := nlt hg BK455; have NB456_455 := nsy (nlt hg BK455); replace BK455 := bB BK455 hb; clear hb hg))
  replace BK455 := asd (blk_drew BK455.out)
  replace BK456 := asd (blk_drew BK456.out)
  replace HB := asd (below_drew1 HB.out)
  refine sh 20 (eb6 BK455) (fun hHeld => ?_); refine with_tabW spec_l05Centre.tab1 spec_l05Centre.bits1 (fun HT_ HW_ => ?_)
  generalize w7.drew = w8 at BK455 BK456 HB hHeld ⊢
  refine pu 0 (some 11) (bT 20 1) HT_ ?_
  refine pu 1 (some 12) (bT 20 2) HT_ ?_
  refine pu 4 (some 15) (bs 20 19) HT_ ?_
  refine pu 5 (some 16) (bs 20 51) HT_ ?_
  refine pu 8 (some 19) (bs 20 307) HT_ ?_
  refine pu 9 (some 20) (bs 20 819) HT_ ?_
  refine pu 12 (some 23) (bs 20 4915) HT_ ?_
  refine pu 13 (some 24) (bs 20 13107) HT_ ?_
  refine ta 2 (some 13) (bs 20 13111) HT_ HW_ hHeld ?_
  refine pu 3 (some 14) (bs 20 13119) HT_ ?_
  refine pu 16 (some 4) (bs 20 78655) HT_ ?_
  refine ta 6 (some 17) (bs 20 78719) HT_ HW_ hHeld ?_
  refine pu 7 (some 18) (bs 20 78847) HT_ ?_
  refine pu 17 (some 5) (bs 20 209919) HT_ ?_
  refine ta 10 (some 21) (bs 20 210943) HT_ HW_ hHeld ?_
  refine pu 11 (some 22) (bs 20 212991) HT_ ?_
  refine pu 18 (some 6) (bs 20 475135) HT_ ?_
  refine ta 14 (some 25) (bs 20 491519) HT_ HW_ hHeld ?_
  refine pu 15 (some 26) (bT 20 19) HT_ ?_
  refine pu 19 (some 7) (bT 20 20) HT_ ?_
  refine done_ (done_of HT_.out (by kernel_rfl)) ?_
  have hnb9 := NB455_456.out
  have hnc9 := NB456_455.out
  obtain ⟨hcz10_0, hcz10_1, hcz10_2, hcz10_3, hcz10_4, hcz10_5, hfz10_0, hfz10_1, hfz10_2, hfz10_3, hfz10_4, hfz10_5⟩ := bz6 BK455
  try go_wp2_with (first | ((with_reducible refine gd 9 rfl ?_); refine bx #[.int .i64 0, .int .i64 0] 27 ?_; intro gb457 hg w11 BK457 hb; have GE457 := ngw2 hg HB GE455 GE456; replace HB := bS2 HB GE455 GE456 hb; have NB455_457 := nlt hg BK455; have NB457_455 := nsy (nlt hg BK455); replace BK455 := bB BK455 hb; have NB456_457 := nlt hg BK456; have NB457_456 := nsy (nlt hg BK456); replace BK456 := bB BK456 hb; clear hb hg; have hnb12 := NB457_455.out; have hnc12 := NB455_457.out; have hnb13 := NB457_456.out; have hnc13 := NB456_457.out; obtain ⟨hcz14_0, hcz14_1, hfz14_0, hfz14_1⟩ := bz2 BK457) | ((with_reducible refine gate_callee (f := 91) rfl ?_); refine gl 61 Tryz.func91 #[.int .i64 (wrap64 ((wrap64 ((wrap64 (1 - a0_3)) * a0_4)) - (wrap64 ((wrap64 (-a0_1)) * a0_5)))), .int .i64 (wrap64 ((wrap64 ((wrap64 (1 - a0_0)) * a0_5)) - (wrap64 ((wrap64 (-a0_2)) * a0_4))))] ?_; (with_reducible refine (spec_l01Divisor.calls _ _ _ _ _ A2.out).mono ?_); rintro e w15 ⟨rfl, hb⟩; refine ⟨_, rfl, ?_⟩; replace BK455 := asd (blk_below (g := gb455) (o := .cells #[.int .i64 a0_0, .int .i64 a0_1, .int .i64 a0_2, .int .i64 a0_3, .int .i64 a0_4, .int .i64 a0_5] 29 (0, 0)) (bq1 BK455 NB455_457) hb); replace BK456 := asd (blk_below (g := gb456) (o := .cells #[.int .i64 0, .int .i64 0] 27 (0, 0)) (bq1 BK456 NB456_457) hb); replace BK457 := asd (blk_below (g := gb457) (o := .cells #[.int .i64 (wrap64 ((wrap64 ((wrap64 (1 - a0_3)) * a0_4)) - (wrap64 ((wrap64 (-a0_1)) * a0_5)))), .int .i64 (wrap64 ((wrap64 ((wrap64 (1 - a0_0)) * a0_5)) - (wrap64 ((wrap64 (-a0_2)) * a0_4))))] 27 (0, 0)) (bq0 BK457) hb); replace HB := bS3 HB GE455 GE456 GE457 hb; (try clear hb)) | ((with_reducible refine gate_callee (f := 91) rfl ?_); refine gl 63 Tryz.func91 #[.int .i64 t458, .int .i64 (wrap64 ((wrap64 ((wrap64 (1 - a0_0)) * (wrap64 (1 - a0_3)))) - (wrap64 ((wrap64 (-a0_1)) * (wrap64 (-a0_2))))))] ?_; (with_reducible refine (spec_l01Divisor.calls _ _ _ _ _ A3.out).mono ?_); rintro e w16 ⟨rfl, hb⟩; refine ⟨_, rfl, ?_⟩; replace BK455 := bB BK455 hb; replace BK456 := bB BK456 hb; replace BK457 := bB BK457 hb; replace HB := bS3 HB GE455 GE456 GE457 hb; (try clear hb)))
  replace BK455 := asd (blk_drew BK455.out)
  replace BK456 := asd (blk_drew BK456.out)
  replace BK457 := asd (blk_drew BK457.out)
  replace HB := asd (below_drew1 HB.out)
  refine sh 14 (eb2 BK457) (fun hHeld => ?_); refine with_tabW spec_l05Centre.tab7 spec_l05Centre.bits7 (fun HT_ HW_ => ?_)
  generalize w16.drew = w17 at BK455 BK456 BK457 HB hHeld ⊢
  refine pu 0 (some 68) (bT 14 1) HT_ ?_
  refine pu 2 (some 70) (bs 14 5) HT_ ?_
  refine pu 4 (some 72) (bs 14 21) HT_ ?_
  refine pu 6 (some 74) (bs 14 85) HT_ ?_
  refine pu 9 (some 77) (bs 14 597) HT_ ?_
  refine pu 10 (some 78) (bs 14 1621) HT_ ?_
  refine pu 11 (some 79) (bs 14 3669) HT_ ?_
  refine ta 1 (some 69) (bs 14 3671) HT_ HW_ hHeld ?_
  refine pu 3 (some 71) (bs 14 3679) HT_ ?_
  refine ta 5 (some 73) (bs 14 3711) HT_ HW_ hHeld ?_
  refine pu 7 (some 75) (bs 14 3839) HT_ ?_
  refine pu 8 (some 76) (bT 14 12) HT_ ?_
  refine ro 12 (none) (bT 14 13) HT_ (fun K hK => ?_)
  have hs18 : w17.cell? ⟨gb456, 0, none⟩ = some (.int .i64 0) := bcl BK456 0
  have hfs18 := blk_frozen BK456.out 0
  have hns18_0 := NB455_456.out
  have hns18_2 := NB457_456.out
  have hms18_0 := NB456_455.out
  have hms18_2 := NB456_457.out
  have hs19 : w17.cell? ⟨gb456, 1, none⟩ = some (.int .i64 0) := bcl BK456 1
  have hfs19 := blk_frozen BK456.out 1
  have hns19_0 := NB455_456.out
  have hns19_2 := NB457_456.out
  have hms19_0 := NB456_455.out
  have hms19_2 := NB456_457.out
  refine skip_ (w1 := ?_) (by rfl) rfl ?_ ?_
  rotate_left
  ·go_simp
   rfl
  refine hK.out _ _ ⟨(cf2 NB457_456 (hHeld.1)), (cf2 NB457_456 (hHeld.2))⟩ (fun hHeld => ?_)
  clear hK K
  refine pu 13 (some 3) (bT 14 14) HT_ ?_
  refine done_ (done_of HT_.out (by kernel_rfl)) ?_
  try go_wp2
 ·refine bodyPost_ret (results_ct rfl _ _ gb456 27 #[.int .i64 (wrap64 (Int.tdiv (wrap64 ((wrap64 ((wrap64 (1 - a0_3)) * a0_4)) - (wrap64 ((wrap64 (-a0_1)) * a0_5)))) (wrap64 (-t459)))), .int .i64 (wrap64 (Int.tdiv (wrap64 ((wrap64 ((wrap64 (1 - a0_0)) * a0_5)) - (wrap64 ((wrap64 (-a0_2)) * a0_4)))) (wrap64 (-t459))))] (0, 0) _ rfl (bq0 BK456) Tryz.underlying27 rfl (by kernel_rfl)) rfl ?_
  exact er (bbw3 HB GE455 GE456 GE457)
 ·refine bodyPost_ret (results_ct rfl _ _ gb456 27 #[.int .i64 (wrap64 (Int.tdiv (wrap64 ((wrap64 ((wrap64 (1 - a0_3)) * a0_4)) - (wrap64 ((wrap64 (-a0_1)) * a0_5)))) t459)), .int .i64 (wrap64 (Int.tdiv (wrap64 ((wrap64 ((wrap64 (1 - a0_0)) * a0_5)) - (wrap64 ((wrap64 (-a0_2)) * a0_4)))) t459))] (0, 0) _ rfl (bq0 BK456) Tryz.underlying27 rfl (by kernel_rfl)) rfl ?_
  exact er (bbw3 HB GE455 GE456 GE457)
/-! ### spec_CentreOf: function 9 -/
def spec_CentreOf.f (k : Nat) (a0_0 : Int) (a0_1 : Int) (a0_2 : Int) (a0_3 : Int) (a0_4 : Int) (a0_5 : Int) : Option (Int × Int × Int × Int) := (spec_IsMotion.f k a0_0 a0_1 a0_2 a0_3 a0_4 a0_5).bind fun t462 => (if t462 = true then ((spec_l05Kind.f k a0_0 a0_1 a0_2 a0_3 a0_4 a0_5).bind fun t463 => (if t463 = 2 then ((spec_l05Centre.f k a0_0 a0_1 a0_2 a0_3 a0_4 a0_5).bind fun bt464 => ((spec_IsVec.f bt464.1 bt464.2.1).bind fun t468 => (if t468 = true then (some (bt464.1, bt464.2.1, bt464.2.2, 0)) else (some (0, 0, 0, 3))))) else (some (0, 0, 0, 5)))) else (some (0, 0, 0, 1)))
set_option maxHeartbeats 8000000 in
set_option maxRecDepth 100000 in
theorem spec_CentreOf.calls (k : Nat) (a0_0 : Int) (a0_1 : Int) (a0_2 : Int) (a0_3 : Int) (a0_4 : Int) (a0_5 : Int) (r1 : Int) (r2 : Int) (r3 : Int) (r4 : Int) (w : World) (h : spec_CentreOf.f k a0_0 a0_1 a0_2 a0_3 a0_4 a0_5 = some (r1, r2, r3, r4)) :
  Calls Tryz.prog 9 #[.agg #[.int .i64 a0_0, .int .i64 a0_1, .int .i64 a0_2, .int .i64 a0_3, .int .i64 a0_4, .int .i64 a0_5]] w fun e w' => e = .returned (.tuple #[.agg #[.int .i64 r1, .int .i64 r2], .int .i64 r3, .int .i64 r4]) ∧ Below w.heap.size w w' := by
 have hu29 := Tryz.underlying29
 have hu27 := Tryz.underlying27
 have HB := asd (Below.refl w.heap.size w)
 have H : ((spec_IsMotion.f k a0_0 a0_1 a0_2 a0_3 a0_4 a0_5).bind fun t462 => (if t462 = true then ((spec_l05Kind.f k a0_0 a0_1 a0_2 a0_3 a0_4 a0_5).bind fun t463 => (if t463 = 2 then ((spec_l05Centre.f k a0_0 a0_1 a0_2 a0_3 a0_4 a0_5).bind fun bt464 => ((spec_IsVec.f bt464.1 bt464.2.1).bind fun t468 => (if t468 = true then (some (bt464.1, bt464.2.1, bt464.2.2, 0)) else (some (0, 0, 0, 3))))) else (some (0, 0, 0, 5)))) else (some (0, 0, 0, 1)))) = some (r1, r2, r3, r4) := h
 clear h
 obtain ⟨t462, A2, H⟩ := ob H
 try dsimp only at H
 by_cases c3 : t462 = true
 ·subst c3
  replace H := ifT H
  obtain ⟨t463, A4, H⟩ := ob H
  try dsimp only at H
  by_cases c5 : t463 = 2
  ·rw [if_pos c5] at H
   have c5b0 : (t463 == 2) = true := beq_iff_eq.mpr c5
   have c5b1 : (t463 != 2) = false := bne_eq_false_iff_eq.mpr c5
   clear c5
   obtain ⟨⟨t464, t465, t466⟩, A6, H⟩ := ob H
   try dsimp only at H
   obtain ⟨t468, A7, H⟩ := ob H
   try dsimp only at H
   by_cases c8 : t468 = true
   ·subst c8
    replace H := ifT H
    simp only [Option.some.injEq, Prod.mk.injEq] at H
    obtain ⟨rfl, rfl, rfl, rfl⟩ := H
    go_enter Tryz.func9, Tryz.ntmps9
    go_wp2_with (first | ((with_reducible refine gd 1 rfl ?_); refine bx #[.int .i64 a0_0, .int .i64 a0_1, .int .i64 a0_2, .int .i64 a0_3, .int .i64 a0_4, .int .i64 a0_5] 29 ?_; intro gb460 hg w9 BK460 hb; have GE460 := ngw0 hg HB; replace HB := bS0 HB hb; clear hb hg) | ((with_reducible refine gd 2 rfl ?_); refine bx #[.int .i64 0, .int .i64 0] 27 ?_; intro gb461 hg w10 BK461 hb; have GE461 := ngw1 hg HB GE460; replace HB := bS1 HB GE460 hb; have NB460_461 := nlt hg BK460; have NB461_460 := nsy (nlt hg BK460); replace BK460 := bB BK460 hb; clear hb hg; have hnb11 := NB460_461.out; have hnc11 := NB461_460.out; obtain ⟨hcz12_0, hcz12_1, hcz12_2, hcz12_3, hcz12_4, hcz12_5, hfz12_0, hfz12_1, hfz12_2, hfz12_3, hfz12_4, hfz12_5⟩ := bz6 BK460) | ((with_reducible refine gate_callee (f := 38) rfl ?_); refine gl 8 Tryz.func38 #[.agg #[.int .i64 a0_0, .int .i64 a0_1, .int .i64 a0_2, .int .i64 a0_3, .int .i64 a0_4, .int .i64 a0_5]] ?_; (with_reducible refine (spec_IsMotion.calls _ _ _ _ _ _ _ _ _ A2.out).mono ?_); rintro e w13 ⟨rfl, hb⟩; refine ⟨_, rfl, ?_⟩; replace BK460 := bB BK460 hb; replace BK461 := bB BK461 hb; replace HB := bS2 HB GE460 GE461 hb; (try clear hb); obtain ⟨hcz14_0, hcz14_1, hcz14_2, hcz14_3, hcz14_4, hcz14_5, hfz14_0, hfz14_1, hfz14_2, hfz14_3, hfz14_4, hfz14_5⟩ := bz6 BK460) | ((with_reducible refine gate_callee (f := 39) rfl ?_); refine gl 12 Tryz.func39 #[.agg #[.int .i64 a0_0, .int .i64 a0_1, .int .i64 a0_2, .int .i64 a0_3, .int .i64 a0_4, .int .i64 a0_5]] ?_; (with_reducible refine (spec_l05Kind.calls _ _ _ _ _ _ _ _ _ A4.out).mono ?_); rintro e w15 ⟨rfl, hb⟩; refine ⟨_, rfl, ?_⟩; replace BK460 := bB BK460 hb; replace BK461 := bB BK461 hb; replace HB := bS2 HB GE460 GE461 hb; (try clear hb); obtain ⟨hcz16_0, hcz16_1, hcz16_2, hcz16_3, hcz16_4, hcz16_5, hfz16_0, hfz16_1, hfz16_2, hfz16_3, hfz16_4, hfz16_5⟩ := bz6 BK460) | ((with_reducible refine gate_callee (f := 40) rfl ?_); refine gl 17 Tryz.func40 #[.agg #[.int .i64 a0_0, .int .i64 a0_1, .int .i64 a0_2, .int .i64 a0_3, .int .i64 a0_4, .int .i64 a0_5]] ?_; (with_reducible refine (spec_l05Centre.calls _ _ _ _ _ _ _ _ _ _ _ A6.out).mono ?_); rintro e w17 ⟨rfl, hb⟩; refine ⟨_, rfl, ?_⟩; replace BK460 := bB BK460 hb; replace BK461 := bB BK461 hb; replace HB := bS2 HB GE460 GE461 hb; (try clear hb)) | ((with_reducible refine gd 5 rfl ?_); refine bx #[.int .i64 0, .int .i64 0] 27 ?_; intro gb467 hg w18 BK467 hb; have GE467 := ngw2 hg HB GE460 GE461; replace HB := bS2 HB GE460 GE461 hb; have NB460_467 := nlt hg BK460; have NB467_460 := nsy (nlt hg BK460); replace BK460 := bB BK460 hb; have NB461_467 := nlt hg BK461; have NB467_461 := nsy (nlt hg BK461); replace BK461 := bB BK461 hb; clear hb hg; have hnb19 := NB467_460.out; have hnc19 := NB460_467.out; have hnb20 := NB467_461.out; have hnc20 := NB461_467.out; obtain ⟨hcz21_0, hcz21_1, hfz21_0, hfz21_1⟩ := bz2 BK467) | ((with_reducible refine gate_callee (f := 41) rfl ?_); refine gl 21 Tryz.func41 #[.agg #[.int .i64 t464, .int .i64 t465]] ?_; (with_reducible refine (spec_IsVec.calls _ _ _ _ A7.out).mono ?_); rintro e w22 ⟨rfl, hb⟩; refine ⟨_, rfl, ?_⟩; replace BK460 := asd (blk_below (g := gb460) (o := .cells #[.int .i64 a0_0, .int .i64 a0_1, .int .i64 a0_2, .int .i64 a0_3, .int .i64 a0_4, .int .i64 a0_5] 29 (0, 0)) (bq1 BK460 NB460_467) hb); replace BK461 := asd (blk_below (g := gb461) (o := .cells #[.int .i64 0, .int .i64 0] 27 (0, 0)) (bq1 BK461 NB461_467) hb); replace BK467 := asd (blk_below (g := gb467) (o := .cells #[.int .i64 t464, .int .i64 t465] 27 (0, 0)) (bq0 BK467) hb); replace HB := bS3 HB GE460 GE461 GE467 hb; (try clear hb); obtain ⟨hcz23_0, hcz23_1, hfz23_0, hfz23_1⟩ := bz2 BK467; obtain ⟨hcz24_0, hcz24_1, hfz24_0, hfz24_1⟩ := bz2 BK461))
    refine bodyPost_ret (results_ctt rfl _ _ gb461 27 #[.int .i64 t464, .int .i64 t465] (0, 0) _ rfl (bq0 BK461) Tryz.underlying27 rfl (by kernel_rfl)) rfl ?_
    exact er (bbw3 HB GE460 GE461 GE467)
   ·replace c8 := Bool.eq_false_iff.mpr c8
    subst c8
    replace H := ifF H
    simp only [Option.some.injEq, Prod.mk.injEq] at H
    obtain ⟨rfl, rfl, rfl, rfl⟩ := H
    go_enter Tryz.func9, Tryz.ntmps9
    go_wp2_with (first | ((with_reducible refine gd 1 rfl ?_); refine bx #[.int .i64 a0_0, .int .i64 a0_1, .int .i64 a0_2, .int .i64 a0_3, .int .i64 a0_4, .int .i64 a0_5] 29 ?_; intro gb460 hg w25 BK460 hb; have GE460 := ngw0 hg HB; replace HB := bS0 HB hb; clear hb hg) | ((with_reducible refine gd 2 rfl ?_); refine bx #[.int .i64 0, .int .i64 0] 27 ?_; intro gb461 hg w26 BK461 hb; have GE461 := ngw1 hg HB GE460; replace HB := bS1 HB GE460 hb; have NB460_461 := nlt hg BK460; have NB461_460 := nsy (nlt hg BK460); replace BK460 := bB BK460 hb; clear hb hg; have hnb27 := NB460_461.out; have hnc27 := NB461_460.out; obtain ⟨hcz28_0, hcz28_1, hcz28_2, hcz28_3, hcz28_4, hcz28_5, hfz28_0, hfz28_1, hfz28_2, hfz28_3, hfz28_4, hfz28_5⟩ := bz6 BK460) | ((with_reducible refine gate_callee (f := 38) rfl ?_); refine gl 8 Tryz.func38 #[.agg #[.int .i64 a0_0, .int .i64 a0_1, .int .i64 a0_2, .int .i64 a0_3, .int .i64 a0_4, .int .i64 a0_5]] ?_; (with_reducible refine (spec_IsMotion.calls _ _ _ _ _ _ _ _ _ A2.out).mono ?_); rintro e w29 ⟨rfl, hb⟩; refine ⟨_, rfl, ?_⟩; replace BK460 := bB BK460 hb; replace BK461 := bB BK461 hb; replace HB := bS2 HB GE460 GE461 hb; (try clear hb); obtain ⟨hcz30_0, hcz30_1, hcz30_2, hcz30_3, hcz30_4, hcz30_5, hfz30_0, hfz30_1, hfz30_2, hfz30_3, hfz30_4, hfz30_5⟩ := bz6 BK460) | ((with_reducible refine gate_callee (f := 39) rfl ?_); refine gl 12 Tryz.func39 #[.agg #[.int .i64 a0_0, .int .i64 a0_1, .int .i64 a0_2, .int .i64 a0_3, .int .i64 a0_4, .int .i64 a0_5]] ?_; (with_reducible refine (spec_l05Kind.calls _ _ _ _ _ _ _ _ _ A4.out).mono ?_); rintro e w31 ⟨rfl, hb⟩; refine ⟨_, rfl, ?_⟩; replace BK460 := bB BK460 hb; replace BK461 := bB BK461 hb; replace HB := bS2 HB GE460 GE461 hb; (try clear hb); obtain ⟨hcz32_0, hcz32_1, hcz32_2, hcz32_3, hcz32_4, hcz32_5, hfz32_0, hfz32_1, hfz32_2, hfz32_3, hfz32_4, hfz32_5⟩ := bz6 BK460) | ((with_reducible refine gate_callee (f := 40) rfl ?_); refine gl 17 Tryz.func40 #[.agg #[.int .i64 a0_0, .int .i64 a0_1, .int .i64 a0_2, .int .i64 a0_3, .int .i64 a0_4, .int .i64 a0_5]] ?_; (with_reducible refine (spec_l05Centre.calls _ _ _ _ _ _ _ _ _ _ _ A6.out).mono ?_); rintro e w33 ⟨rfl, hb⟩; refine ⟨_, rfl, ?_⟩; replace BK460 := bB BK460 hb; replace BK461 := bB BK461 hb; replace HB := bS2 HB GE460 GE461 hb; (try clear hb)) | ((with_reducible refine gd 5 rfl ?_); refine bx #[.int .i64 0, .int .i64 0] 27 ?_; intro gb467 hg w34 BK467 hb; have GE467 := ngw2 hg HB GE460 GE461; replace HB := bS2 HB GE460 GE461 hb; have NB460_467 := nlt hg BK460; have NB467_460 := nsy (nlt hg BK460); replace BK460 := bB BK460 hb; have NB461_467 := nlt hg BK461; have NB467_461 := nsy (nlt hg BK461); replace BK461 := bB BK461 hb; clear hb hg; have hnb35 := NB467_460.out; have hnc35 := NB460_467.out; have hnb36 := NB467_461.out; have hnc36 := NB461_467.out; obtain ⟨hcz37_0, hcz37_1, hfz37_0, hfz37_1⟩ := bz2 BK467) | ((with_reducible refine gate_callee (f := 41) rfl ?_); refine gl 21 Tryz.func41 #[.agg #[.int .i64 t464, .int .i64 t465]] ?_; (with_reducible refine (spec_IsVec.calls _ _ _ _ A7.out).mono ?_); rintro e w38 ⟨rfl, hb⟩; refine ⟨_, rfl, ?_⟩; replace BK460 := asd (blk_below (g := gb460) (o := .cells #[.int .i64 a0_0, .int .i64 a0_1, .int .i64 a0_2, .int .i64 a0_3, .int .i64 a0_4, .int .i64 a0_5] 29 (0, 0)) (bq1 BK460 NB460_467) hb); replace BK461 := asd (blk_below (g := gb461) (o := .cells #[.int .i64 0, .int .i64 0] 27 (0, 0)) (bq1 BK461 NB461_467) hb); replace BK467 := asd (blk_below (g := gb467) (o := .cells #[.int .i64 t464, .int .i64 t465] 27 (0, 0)) (bq0 BK467) hb); replace HB := bS3 HB GE460 GE461 GE467 hb; (try clear hb); obtain ⟨hcz39_0, hcz39_1, hfz39_0, hfz39_1⟩ := bz2 BK461))
    refine bodyPost_ret (results_ctt rfl _ _ gb461 27 #[.int .i64 0, .int .i64 0] (0, 0) _ rfl (bq0 BK461) Tryz.underlying27 rfl (by kernel_rfl)) rfl ?_
    exact er (bbw3 HB GE460 GE461 GE467)
  ·rw [if_neg c5] at H
   have c5b0 : (t463 == 2) = false := beq_eq_false_iff_ne.mpr c5
   have c5b1 : (t463 != 2) = true := bne_iff_ne.mpr c5
   simp only [Option.some.injEq, Prod.mk.injEq] at H
   obtain ⟨rfl, rfl, rfl, rfl⟩ := H
   go_enter Tryz.func9, Tryz.ntmps9
   go_wp2_with (first | ((with_reducible refine gd 1 rfl ?_); refine bx #[.int .i64 a0_0, .int .i64 a0_1, .int .i64 a0_2, .int .i64 a0_3, .int .i64 a0_4, .int .i64 a0_5] 29 ?_; intro gb460 hg w40 BK460 hb; have GE460 := ngw0 hg HB; replace HB := bS0 HB hb; clear hb hg) | ((with_reducible refine gd 2 rfl ?_); refine bx #[.int .i64 0, .int .i64 0] 27 ?_; intro gb461 hg w41 BK461 hb; have GE461 := ngw1 hg HB GE460; replace HB := bS1 HB GE460 hb; have NB460_461 := nlt hg BK460; have NB461_460 := nsy (nlt hg BK460); replace BK460 := bB BK460 hb; clear hb hg; have hnb42 := NB460_461.out; have hnc42 := NB461_460.out; obtain ⟨hcz43_0, hcz43_1, hcz43_2, hcz43_3, hcz43_4, hcz43_5, hfz43_0, hfz43_1, hfz43_2, hfz43_3, hfz43_4, hfz43_5⟩ := bz6 BK460) | ((with_reducible refine gate_callee (f := 38) rfl ?_); refine gl 8 Tryz.func38 #[.agg #[.int .i64 a0_0, .int .i64 a0_1, .int .i64 a0_2, .int .i64 a0_3, .int .i64 a0_4, .int .i64 a0_5]] ?_; (with_reducible refine (spec_IsMotion.calls _ _ _ _ _ _ _ _ _ A2.out).mono ?_); rintro e w44 ⟨rfl, hb⟩; refine ⟨_, rfl, ?_⟩; replace BK460 := bB BK460 hb; replace BK461 := bB BK461 hb; replace HB := bS2 HB GE460 GE461 hb; (try clear hb); obtain ⟨hcz45_0, hcz45_1, hcz45_2, hcz45_3, hcz45_4, hcz45_5, hfz45_0, hfz45_1, hfz45_2, hfz45_3, hfz45_4, hfz45_5⟩ := bz6 BK460) | ((with_reducible refine gate_callee (f := 39) rfl ?_); refine gl 12 Tryz.func39 #[.agg #[.int .i64 a0_0, .int .i64 a0_1, .int .i64 a0_2, .int .i64 a0_3, .int .i64 a0_4, .int .i64 a0_5]] ?_; (with_reducible refine (spec_l05Kind.calls _ _ _ _ _ _ _ _ _ A4.out).mono ?_); rintro e w46 ⟨rfl, hb⟩; refine ⟨_, rfl, ?_⟩; replace BK460 := bB BK460 hb; replace BK461 := bB BK461 hb; replace HB := bS2 HB GE460 GE461 hb; (try clear hb); obtain ⟨hcz47_0, hcz47_1, hfz47_0, hfz47_1⟩ := bz2 BK461))
   refine bodyPost_ret (results_ctt rfl _ _ gb461 27 #[.int .i64 0, .int .i64 0] (0, 0) _ rfl (bq0 BK461) Tryz.underlying27 rfl (by kernel_rfl)) rfl ?_
   exact er (bbw2 HB GE460 GE461)
 ·replace c3 := Bool.eq_false_iff.mpr c3
  subst c3
  replace H := ifF H
  simp only [Option.some.injEq, Prod.mk.injEq] at H
  obtain ⟨rfl, rfl, rfl, rfl⟩ := H
  go_enter Tryz.func9, Tryz.ntmps9
  go_wp2_with (first | ((with_reducible refine gd 1 rfl ?_); refine bx #[.int .i64 a0_0, .int .i64 a0_1, .int .i64 a0_2, .int .i64 a0_3, .int .i64 a0_4, .int .i64 a0_5] 29 ?_; intro gb460 hg w48 BK460 hb; have GE460 := ngw0 hg HB; replace HB := bS0 HB hb; clear hb hg) | ((with_reducible refine gd 2 rfl ?_); refine bx #[.int .i64 0, .int .i64 0] 27 ?_; intro gb461 hg w49 BK461 hb; have GE461 := ngw1 hg HB GE460; replace HB := bS1 HB GE460 hb; have NB460_461 := nlt hg BK460; have NB461_460 := nsy (nlt hg BK460); replace BK460 := bB BK460 hb; clear hb hg; have hnb50 := NB460_461.out; have hnc50 := NB461_460.out; obtain ⟨hcz51_0, hcz51_1, hcz51_2, hcz51_3, hcz51_4, hcz51_5, hfz51_0, hfz51_1, hfz51_2, hfz51_3, hfz51_4, hfz51_5⟩ := bz6 BK460) | ((with_reducible refine gate_callee (f := 38) rfl ?_); refine gl 8 Tryz.func38 #[.agg #[.int .i64 a0_0, .int .i64 a0_1, .int .i64 a0_2, .int .i64 a0_3, .int .i64 a0_4, .int .i64 a0_5]] ?_; (with_reducible refine (spec_IsMotion.calls _ _ _ _ _ _ _ _ _ A2.out).mono ?_); rintro e w52 ⟨rfl, hb⟩; refine ⟨_, rfl, ?_⟩; replace BK460 := bB BK460 hb; replace BK461 := bB BK461 hb; replace HB := bS2 HB GE460 GE461 hb; (try clear hb); obtain ⟨hcz53_0, hcz53_1, hfz53_0, hfz53_1⟩ := bz2 BK461))
  refine bodyPost_ret (results_ctt rfl _ _ gb461 27 #[.int .i64 0, .int .i64 0] (0, 0) _ rfl (bq0 BK461) Tryz.underlying27 rfl (by kernel_rfl)) rfl ?_
  exact er (bbw2 HB GE460 GE461)

/-! ### texts: function 99998 -/
/-- What the package-level variables that the library reads hold. -/
structure texts.Tab (w : World) : Prop where
 pow10 : Lib.TabIs Tryz.prog w "internal/strconv.uint64pow10" .u64 Lib.pow10Tab
 maxlen : ∃ m, w.cell? ⟨0, 0, none⟩ = some (.int .i64 m)
 errsyntax : ∃ ev, w.cell? ⟨2, 0, none⟩ = some ev ∧ (ev = .nilIface ∨ ∃ te pe, ev = .iface te pe)
 errrange : ∃ ev, w.cell? ⟨3, 0, none⟩ = some ev ∧ (ev = .nilIface ∨ ∃ te pe, ev = .iface te pe)
theorem texts.cell {w w' : World} {p : Addr} {v : Value} (hb : Below w.heap.size w w') (h : w.cell? p = some v) : w'.cell? p = w.cell? p := hb.cell (World.block_lt_of_cell? w _ h)
theorem texts.tabB {w w' : World} (h : texts.Tab w) (hb : Below w.heap.size w w') : texts.Tab w' :=
 ⟨Go.Joins.tab_stays (show Tryz.prog.globalNamed "internal/strconv.uint64pow10" = some 1 by kernel_rfl) h.pow10 hb (Nat.le_refl _), (let ⟨m, hm⟩ := h.maxlen; ⟨m, (texts.cell hb hm).trans hm⟩), (let ⟨m, hm, he⟩ := h.errsyntax; ⟨m, (texts.cell hb hm).trans hm, he⟩), (let ⟨m, hm, he⟩ := h.errrange; ⟨m, (texts.cell hb hm).trans hm, he⟩)⟩

/-! ### strconv_FormatInt: function 130 -/
/-- A number's text in decimal. -/
def strconv_FormatInt.f (a0 a1 : Int) : Option ByteArray := if (-9223372036854775808 ≤ a0 ∧ a0 ≤ 9223372036854775807) ∧ a1 = 10 then some ⟨(Lib.itoa a0).toArray⟩ else none
theorem strconv_FormatInt.calls (a0 a1 : Int) (r : ByteArray) (w : World) (htab : texts.Tab w) (h : strconv_FormatInt.f a0 a1 = some r) : Calls Tryz.prog 130 #[.int .i64 a0, .int .i64 a1] w fun e w' => e = .returned (.string r) ∧ Below w.heap.size w w' := by
 unfold strconv_FormatInt.f at h
 by_cases hc : (-9223372036854775808 ≤ a0 ∧ a0 ≤ 9223372036854775807) ∧ a1 = 10
 ·rw [if_pos hc] at h
  obtain ⟨⟨h0, h1⟩, rfl⟩ := hc
  obtain rfl := Option.some.inj h
  refine (Tryz.strconv_FormatInt_10 a0 h0 h1 w htab.pow10).mono ?_
  rintro e w' ⟨he, k, os, rfl⟩
  exact ⟨he, rfl, rfl, rfl, by show w.heap.size ≤ (w.heap ++ os).size; rw [Array.size_append]; omega, fun j hj => by show (w.heap ++ os)[j]? = w.heap[j]?; exact Array.getElem?_append_left hj⟩
 ·rw [if_neg hc] at h; cases h
/-! ### impl_text: function 103 -/
def impl_text.f (a0 : Int) : Option (ByteArray) := (strconv_FormatInt.f a0 10).bind fun t469 => (some t469)
set_option maxHeartbeats 8000000 in
set_option maxRecDepth 100000 in
theorem impl_text.calls (a0 : Int) (r : ByteArray) (w : World) (htab : texts.Tab w) (h : impl_text.f a0 = some r) :
  Calls Tryz.prog 103 #[.int .i64 a0] w fun e w' => e = .returned (.string r) ∧ Below w.heap.size w w' := by
 have HTAB := Aside0.mk htab
 clear htab
 have HB := asd (Below.refl w.heap.size w)
 have H : ((strconv_FormatInt.f a0 10).bind fun t469 => (some t469)) = some r := h
 clear h
 obtain ⟨t469, A2, H⟩ := ob H
 try dsimp only at H
 obtain rfl := Option.some.inj H
 go_enter Tryz.func103, Tryz.ntmps103
 go_wp2_with (first | ((with_reducible refine gate_callee (f := 130) rfl ?_); refine gl 4 Tryz.func130 #[.int .i64 a0, .int .i64 10] ?_; (with_reducible refine (strconv_FormatInt.calls _ _ _ _ (texts.tabB HTAB.out (by repeat (first | (with_reducible first | exact HB.out | exact Below.refl _ _ | apply below_alloc | apply pw_below_drewN | apply below_drew1) | exact HB.out))) A2.out).mono ?_); rintro e w3 ⟨rfl, hb⟩; refine ⟨_, rfl, ?_⟩; replace HB := bS0 HB hb; (try clear hb)))
 go_ret
 exact er (bbw0 HB)
/-! ### strings_Join: function 104 -/
/-- The elements with a text between them. -/
def strings_Join.f (l0 : List ByteArray) (a1 : ByteArray) : Option ByteArray := if l0.length ≤ 140737488355328 ∧ (Lib.join (l0.map (·.data.toList)) a1.data.toList).length ≤ 140737488355328 then some ⟨(Lib.join (l0.map (·.data.toList)) a1.data.toList).toArray⟩ else none
/-- A row of texts that lies in a block of its own. -/
def strings_Join.RC (w : World) (A : Option Addr) (xs : List ByteArray) : Prop := Kd.C Kd.string w A xs.length xs ∧ (xs = [] ∨ ∃ g, A = some ⟨g, 0, none⟩ ∧ g < w.heap.size)
theorem strings_Join.rows {e : Nat} {w : World} {base : Nat} {ok : Nat → Prop} {A : Option Addr} {c n : Nat} {xs : List ByteArray} (h : Kd.R Kd.string e w base ok (.slice A n c) xs) : strings_Join.RC w A xs := by
 have hC := (Kd.R_reads' h).2.2
 obtain ⟨inner, ho, hr⟩ := h.2
 rcases ho.2 with ⟨h1, h2⟩ | ⟨g, cap, cur, h1, _, hg, _⟩
 ·exact ⟨hC, Or.inl (List.eq_nil_of_length_eq_zero h2)⟩
 ·injection h1 with h3 h4 h5
  subst h3
  exact ⟨hC, Or.inr ⟨g, rfl, (Array.getElem?_eq_some_iff.1 hg).1⟩⟩
theorem strings_Join.calls (A0 : Option Addr) (c0 : Nat) (l0 : List ByteArray) (a1 : ByteArray) (r : ByteArray) (w : World) (hr0 : strings_Join.RC w A0 l0) (hc0 : l0.length ≤ c0) (h : strings_Join.f l0 a1 = some r) : Calls Tryz.prog 104 #[.slice A0 l0.length c0, .string a1] w fun e w' => e = .returned (.string r) ∧ Below w.heap.size w w' := by
 obtain ⟨hC, hg⟩ := hr0
 unfold strings_Join.f at h
 by_cases hc : l0.length ≤ 140737488355328 ∧ (Lib.join (l0.map (·.data.toList)) a1.data.toList).length ≤ 140737488355328
 ·rw [if_pos hc] at h
  obtain rfl := Option.some.inj h
  rcases hg with rfl | ⟨g, rfl, hlt⟩
  ·exact (Tryz.strings_Join_none A0 c0 a1 w).mono fun e w' ⟨he, hw⟩ => ⟨he, hw ▸ Below.refl _ _⟩
  ·refine Tryz.strings_Join g 0 c0 l0 a1 w (fun j x hx => ?_) hlt hc.1 hc0 hc.2
   have hj : 0 < l0.length := by
    have := (List.getElem?_eq_some_iff.1 hx).1
    omega
   obtain ⟨ad, e, hrow⟩ := hC.2.2 hj
   obtain rfl := Option.some.inj e
   obtain ⟨c, hlen, hK, hcell⟩ := hrow j x hx
   have hK : c = [.string x] := hK
   subst hK
   have := hcell 0 _ rfl
   rw [add_plain, show Kd.string.sz = 1 from rfl, Nat.mul_one, Nat.add_zero] at this
   rw [Nat.zero_add]; exact this
 ·rw [if_neg hc] at h; cases h
/-! ### impl_joined: function 62 -/
def impl_joined.l0 : Nat → ByteArray → List ByteArray → List Int → Int → Int → Option (ByteArray)
 | 0, _, _, _, _, _ => none
 | k + 1, x0, x5, x9, x10, x11 => if x11 < x10 then (if 0 ≤ x11 then (if x11 < (x9.length : Int) then ((impl_text.f (rd x9 x11)).bind fun t474 => (if x5.length < 8796093022208 then (impl_joined.l0 k x0 (x5 ++ [t474]) x9 x10 (wrap64 (x11 + 1))) else (none))) else (none)) else (none)) else ((strings_Join.f x5 x0).bind fun t478 => (some t478))
def impl_joined.f (k : Nat) (a0 : ByteArray) (l1 : List Int) : Option (ByteArray) := impl_joined.l0 k a0 (([] : List ByteArray)) l1 (l1.length : Int) 0
set_option maxHeartbeats 8000000 in
set_option maxRecDepth 100000 in
theorem impl_joined.calls (k : Nat) (a0 : ByteArray) (A1 : Option Addr) (c1 : Nat) (l1 : List Int) (r : ByteArray) (w : World) (hr1 : Kd.C (Kd.int .i64) w A1 l1.length l1) (hc1 : l1.length ≤ c1) (htab : texts.Tab w) (h : impl_joined.f k a0 l1 = some r) :
  Calls Tryz.prog 62 #[.string a0, .slice A1 l1.length c1] w fun e w' => e = .returned (.string r) ∧ Below w.heap.size w w' := by
 have HTAB := Aside0.mk htab
 clear htab
 have HR1 := Aside0.mk hr1
 have HC1 := Aside0.mk hc1
 clear hr1 hc1
 have HB := asd (Below.refl w.heap.size w)
 have H : (impl_joined.l0 k a0 (([] : List ByteArray)) l1 (l1.length : Int) 0) = some r := h
 clear h
 obtain ⟨y470, hy470⟩ : ∃ y_ : List ByteArray, y_ = (([] : List ByteArray)) := ⟨_, rfl⟩
 replace H : (impl_joined.l0 k a0 y470 l1 (l1.length : Int) 0) = some r := by first | (rw [hy470]; with_reducible exact H) | (have H2_ := (Option.bind_some _ _).symm.trans H; rw [hy470]; with_reducible exact H2_) | (have H2_ := (Option.bind_some _ _).symm.trans H; with_reducible exact H2_) | with_reducible exact H | (rw [hy470]; exact H) | exact H
 have Ny470 := Aside0.mk hy470
 clear hy470
 have H' := Aside0.mk H
 clear H
 go_enter Tryz.func62, Tryz.ntmps62
 go_wp2_with (first | ((with_reducible refine gd 8 rfl ?_); refine Kd.R_lit Kd.string _ 9 ?hg (N := 8) ?hd (xs := ([] : List ByteArray)) (inner := []) (ok := fun _ => True) (okp := fun _ => True) ?hr ?hp (fun _ hk => hk) trivial (Below.refl _ _) (Nat.le_refl _) (by simp) ?_; (case hd => rfl); (case hg => rfl); (case hr => first | (go_simp; done) | (go_simp; rfl)); (case hp => exact (Reps.none _ _)); intro v471 w3 ho4 hb hg_ hnew_; clear hg_ hnew_; (first | rw [← Ny470.out] at ho4 | (simp only [Int.reduceToNat] at ho4; rw [← Ny470.out] at ho4)); have HO472 := asd (Kd.R_lower ho4 (bsz0 HB)); replace HB := bS0 HB hb; clear hb ho4))
 go_loopg [5, 11] k (fun kq v5 v11 w' => ∃ (x5_1 : List ByteArray) (x11_1 : Int), v11 = .int .i64 x11_1 ∧ Aside0 (impl_joined.l0 kq a0 x5_1 l1 (l1.length : Int) x11_1 = some r) ∧ Aside0 (kq ≤ k) ∧ Aside0 (Kd.R Kd.string 9 w' w.heap.size (fun _ => True) v5 x5_1) ∧ Aside0 (Below w.heap.size w w'))
 case atStart => exact ⟨(y470), (0), (by first | rfl | (simp; done) | (simp [*]; done)), H', ⟨Nat.le_refl _⟩, ⟨by (with_reducible repeat (first | apply Kd.R_alloc | apply Kd.R_drewN | apply Kd.R_drew)); exact HO472.out⟩, ⟨bbw0 HB⟩⟩
 case round =>
  clear H'
  try clear c1
  try clear p2
  obtain ⟨x5_1, x11_1, rfl, HA, HK1, HO_5, HB⟩ := hrel
  cases gk with
  | zero => exact absurd HA.out (by simp [impl_joined.l0])
  | succ k1 =>
   have H := HA.out
   clear HA
   simp only [impl_joined.l0] at H
   by_cases c5 : x11_1 < (l1.length : Int)
   ·rw [if_pos c5] at H
    have c5b0 := decide_eq_true c5
    clear c5
    by_cases c6 : 0 ≤ x11_1
    ·rw [if_pos c6] at H
     have c6b0 := decide_eq_true c6
     clear c6
     by_cases c7 : x11_1 < (l1.length : Int)
     ·rw [if_pos c7] at H
      have c7b0 := decide_eq_true c7
      clear c7
      obtain ⟨t474, A8, H⟩ := ob H
      try dsimp only at H
      by_cases c9 : x5_1.length < 8796093022208
      ·rw [if_pos c9] at H
       have LMc9 := Aside0.mk c9
       clear c9
       obtain ⟨y475, hy475⟩ : ∃ y_ : List ByteArray, y_ = (x5_1 ++ [t474]) := ⟨_, rfl⟩
       replace H : (impl_joined.l0 k1 a0 y475 l1 (l1.length : Int) (wrap64 (x11_1 + 1))) = some r := by first | (rw [hy475]; with_reducible exact H) | (have H2_ := (Option.bind_some _ _).symm.trans H; rw [hy475]; with_reducible exact H2_) | (have H2_ := (Option.bind_some _ _).symm.trans H; with_reducible exact H2_) | with_reducible exact H | (rw [hy475]; exact H) | exact H
       have Ny475 := Aside0.mk hy475
       clear hy475
       have H' := Aside0.mk H
       clear H
       have p473 : 0 ≤ (x11_1 : Int) := od
       have q473 : x11_1 < (l1.length : Int) := od
       obtain ⟨ad473, e473, hx473_0⟩ := Kd.at_int HR1.out x11_1 p473 q473
       cases e473
       replace hx473_0 := xb HB hx473_0
       replace p473 := eq_true p473
       replace q473 := eq_true q473
       go_wp2_with (first | ((with_reducible refine gate_callee (f := 103) rfl ?_); refine gl 17 Tryz.func103 #[.int .i64 (rd l1 x11_1)] ?_; (with_reducible refine (impl_text.calls _ _ _ (texts.tabB HTAB.out (by repeat (first | (with_reducible first | exact HB.out | exact Below.refl _ _ | apply below_alloc | apply pw_below_drewN | apply below_drew1) | exact HB.out))) A8.out).mono ?_); rintro e w10 ⟨rfl, hb⟩; refine ⟨_, rfl, ?_⟩; replace HO_5 := asd (Kd.R_below (kr HO_5) hb); replace HB := bS0 HB hb; (try clear hb)) | ((with_reducible refine gate_builtin (b := .append) (xs := #[.tmp 15, .tmp 18]) rfl ?_); at_builtin; refine Kd.R_append Kd.string (w0 := w) w.heap.size rfl (.tmp 15) (.tmp 18) 73 9 (.string ⟨#[]⟩) 16 rfl Tryz.underlying73 info9 rfl (by decide) (by omega) u5 x5_1 t474 [.string t474] (fun _ => True) (fun _ => False) rfl rfl ?aP (fun _ hk => hk.elim) ?aF ?aO ?aB ?aS ?aL ?_; (case aP => exact rfl); (case aB => exact (bbw0 HB)); (case aF => exact (fun _ _ => trivial)); (case aO => exact (kr HO_5)); (case aS => exact (bsz0 HB)); (case aL => have := LMc9.out; omega); intro v476 w11 ho hb hg hat; rw [← Ny475.out] at ho; have n0_ := asd (hb); have n1_ := asd (ho); clear HB; clear HO_5; have HB := n0_; have HO477 := n1_; clear n0_ n1_; clear ho hb hg hat))
       go_roundg k1
       case measure => have := HK1.out; omega
       case rel => exact ⟨(y475), (wrap64 (x11_1 + 1)), (by first | rfl | (simp; done) | (simp [*]; done)), H', ⟨by have := HK1.out; omega⟩, ⟨by (with_reducible repeat (first | apply Kd.R_alloc | apply Kd.R_drewN | apply Kd.R_drew)); exact HO477.out⟩, ⟨bbw0 HB⟩⟩
      ·rw [if_neg c9] at H
       exact absurd H (by simp)
     ·rw [if_neg c7] at H
      exact absurd H (by simp)
    ·rw [if_neg c6] at H
     exact absurd H (by simp)
   ·rw [if_neg c5] at H
    have c5b0 := decide_eq_false c5
    clear c5
    obtain ⟨t478, A12, H⟩ := ob H
    try dsimp only at H
    obtain rfl := Option.some.inj H
    obtain ⟨Ao13, co13, eo13⟩ := Kd.R_slice HO_5.out
    subst eo13
    go_wp2_with (first | ((with_reducible refine gate_callee (f := 104) rfl ?_); refine gl 23 Tryz.func104 #[.slice Ao13 x5_1.length co13, .string a0] ?_; (with_reducible refine (strings_Join.calls _ _ _ _ _ _ ?side1 ?side2 A12.out).mono ?_); (case side1 => repeat (first | exact strings_Join.rows HO_5.out | (with_reducible refine Kd.C_alloc ?_ _) | (with_reducible refine Kd.C_drewN ?_ _) | (with_reducible refine Kd.C_drew ?_))); (case side2 => exact (Kd.R_reads' HO_5.out).2.1); rintro e w14 ⟨rfl, hb⟩; refine ⟨_, rfl, ?_⟩; replace HO_5 := asd (Kd.R_below (kr HO_5) hb); replace HB := bS0 HB hb; (try clear hb)))
    go_ret
    exact er (bbw0 HB)
/-! ### impl_MatText: function 18 -/
def impl_MatText.f (k : Nat) (a0_0 : Int) (a0_1 : Int) (a0_2 : Int) (a0_3 : Int) : Option (ByteArray) := (impl_IsMat.f a0_0 a0_1 a0_2 a0_3).bind fun t480 => (if t480 = true then ((impl_joined.f k (⟨#[44]⟩ : ByteArray) (([a0_0, a0_1, a0_2, a0_3] : List Int))).bind fun t484 => (some t484)) else (some (⟨#[]⟩ : ByteArray)))
set_option maxHeartbeats 8000000 in
set_option maxRecDepth 100000 in
theorem impl_MatText.calls (k : Nat) (a0_0 : Int) (a0_1 : Int) (a0_2 : Int) (a0_3 : Int) (r : ByteArray) (w : World) (htab : texts.Tab w) (h : impl_MatText.f k a0_0 a0_1 a0_2 a0_3 = some r) :
  Calls Tryz.prog 18 #[.agg #[.int .i64 a0_0, .int .i64 a0_1, .int .i64 a0_2, .int .i64 a0_3]] w fun e w' => e = .returned (.string r) ∧ Below w.heap.size w w' := by
 have HTAB := Aside0.mk htab
 clear htab
 have hu25 := Tryz.underlying25
 have HB := asd (Below.refl w.heap.size w)
 have H : ((impl_IsMat.f a0_0 a0_1 a0_2 a0_3).bind fun t480 => (if t480 = true then ((impl_joined.f k (⟨#[44]⟩ : ByteArray) (([a0_0, a0_1, a0_2, a0_3] : List Int))).bind fun t484 => (some t484)) else (some (⟨#[]⟩ : ByteArray)))) = some r := h
 clear h
 obtain ⟨t480, A2, H⟩ := ob H
 try dsimp only at H
 by_cases c3 : t480 = true
 ·subst c3
  replace H := ifT H
  obtain ⟨y481, hy481⟩ : ∃ y_ : List Int, y_ = (([a0_0, a0_1, a0_2, a0_3] : List Int)) := ⟨_, rfl⟩
  replace H : ((impl_joined.f k (⟨#[44]⟩ : ByteArray) y481).bind fun t484 => (some t484)) = some r := by first | (rw [hy481]; with_reducible exact H) | (have H2_ := (Option.bind_some _ _).symm.trans H; rw [hy481]; with_reducible exact H2_) | (have H2_ := (Option.bind_some _ _).symm.trans H; with_reducible exact H2_) | with_reducible exact H | (rw [hy481]; exact H) | exact H
  have Ny481 := Aside0.mk hy481
  clear hy481
  obtain ⟨t484, A4, H⟩ := ob H
  try dsimp only at H
  obtain rfl := Option.some.inj H
  go_enter Tryz.func18, Tryz.ntmps18
  go_wp2_with (first | ((with_reducible refine gd 1 rfl ?_); refine bx #[.int .i64 a0_0, .int .i64 a0_1, .int .i64 a0_2, .int .i64 a0_3] 25 ?_; intro gb479 hg w5 BK479 hb; have GE479 := ngw0 hg HB; replace HB := bS0 HB hb; clear hb hg; obtain ⟨hcz6_0, hcz6_1, hcz6_2, hcz6_3, hfz6_0, hfz6_1, hfz6_2, hfz6_3⟩ := bz4 BK479) | ((with_reducible refine gate_callee (f := 52) rfl ?_); refine gl 4 Tryz.func52 #[.agg #[.int .i64 a0_0, .int .i64 a0_1, .int .i64 a0_2, .int .i64 a0_3]] ?_; (with_reducible refine (impl_IsMat.calls _ _ _ _ _ _ A2.out).mono ?_); rintro e w7 ⟨rfl, hb⟩; refine ⟨_, rfl, ?_⟩; replace BK479 := bB BK479 hb; replace HB := bS1 HB GE479 hb; (try clear hb); obtain ⟨hcz8_0, hcz8_1, hcz8_2, hcz8_3, hfz8_0, hfz8_1, hfz8_2, hfz8_3⟩ := bz4 BK479) | ((with_reducible refine gd 14 rfl ?_); refine Kd.R_lit (Kd.int .i64) _ 2 ?hg (N := 14) ?hd (xs := ([a0_0, a0_1, a0_2, a0_3] : List Int)) (inner := [.int .i64 a0_0, .int .i64 a0_1, .int .i64 a0_2, .int .i64 a0_3]) (ok := fun _ => True) (okp := fun _ => True) ?hr ?hp (fun _ hk => hk) trivial (Below.refl _ _) (Nat.le_refl _) (by simp) ?_; (case hd => rfl); (case hg => rfl); (case hr => first | (go_simp; done) | (go_simp; rfl)); (case hp => exact (Reps.one (show Kd.M (Kd.int .i64) _ _ _ a0_0 [.int .i64 a0_0] from rfl) (Reps.one (show Kd.M (Kd.int .i64) _ _ _ a0_1 [.int .i64 a0_1] from rfl) (Reps.one (show Kd.M (Kd.int .i64) _ _ _ a0_2 [.int .i64 a0_2] from rfl) (Reps.one (show Kd.M (Kd.int .i64) _ _ _ a0_3 [.int .i64 a0_3] from rfl) (Reps.none _ _)))))); intro v482 w9 ho10 hb hg_ hnew_; clear hg_ hnew_; (first | rw [← Ny481.out] at ho10 | (simp only [Int.reduceToNat] at ho10; rw [← Ny481.out] at ho10)); have HO483 := asd (Kd.R_lower ho10 (bsz1 HB GE479)); replace BK479 := bB BK479 hb; replace HB := bS1 HB GE479 hb; clear hb ho10; obtain ⟨Ao11, co11, eo11⟩ := Kd.R_slice HO483.out; subst eo11) | ((with_reducible refine gate_callee (f := 62) rfl ?_); refine gl 15 Tryz.func62 #[.string (⟨#[44]⟩ : ByteArray), .slice Ao11 y481.length co11] ?_; (with_reducible refine (impl_joined.calls _ _ _ _ _ _ _ ?side1 ?side2 (texts.tabB HTAB.out (by repeat (first | (with_reducible first | exact HB.out | exact Below.refl _ _ | apply below_alloc | apply pw_below_drewN | apply below_drew1 | refine below_set ?_ GE479.out) | exact HB.out))) A4.out).mono ?_); (case side1 => exact ks (Kd.R_reads' HO483.out).2.2); (case side2 => exact (Kd.R_reads' HO483.out).2.1); rintro e w12 ⟨rfl, hb⟩; refine ⟨_, rfl, ?_⟩; replace HO483 := asd (Kd.R_below (kr HO483) hb); replace BK479 := bB BK479 hb; replace HB := bS1 HB GE479 hb; (try clear hb)))
  go_ret
  exact er (bbw1 HB GE479)
 ·replace c3 := Bool.eq_false_iff.mpr c3
  subst c3
  replace H := ifF H
  obtain rfl := Option.some.inj H
  go_enter Tryz.func18, Tryz.ntmps18
  go_wp2_with (first | ((with_reducible refine gd 1 rfl ?_); refine bx #[.int .i64 a0_0, .int .i64 a0_1, .int .i64 a0_2, .int .i64 a0_3] 25 ?_; intro gb479 hg w13 BK479 hb; have GE479 := ngw0 hg HB; replace HB := bS0 HB hb; clear hb hg; obtain ⟨hcz14_0, hcz14_1, hcz14_2, hcz14_3, hfz14_0, hfz14_1, hfz14_2, hfz14_3⟩ := bz4 BK479) | ((with_reducible refine gate_callee (f := 52) rfl ?_); refine gl 4 Tryz.func52 #[.agg #[.int .i64 a0_0, .int .i64 a0_1, .int .i64 a0_2, .int .i64 a0_3]] ?_; (with_reducible refine (impl_IsMat.calls _ _ _ _ _ _ A2.out).mono ?_); rintro e w15 ⟨rfl, hb⟩; refine ⟨_, rfl, ?_⟩; replace BK479 := bB BK479 hb; replace HB := bS1 HB GE479 hb; (try clear hb)))
  go_ret
  exact er (bbw1 HB GE479)
/-! ### impl_VecText: function 42 -/
def impl_VecText.f (k : Nat) (a0_0 : Int) (a0_1 : Int) : Option (ByteArray) := (impl_IsVec.f a0_0 a0_1).bind fun t486 => (if t486 = true then ((impl_joined.f k (⟨#[44]⟩ : ByteArray) (([a0_0, a0_1] : List Int))).bind fun t490 => (some t490)) else (some (⟨#[]⟩ : ByteArray)))
set_option maxHeartbeats 8000000 in
set_option maxRecDepth 100000 in
theorem impl_VecText.calls (k : Nat) (a0_0 : Int) (a0_1 : Int) (r : ByteArray) (w : World) (htab : texts.Tab w) (h : impl_VecText.f k a0_0 a0_1 = some r) :
  Calls Tryz.prog 42 #[.agg #[.int .i64 a0_0, .int .i64 a0_1]] w fun e w' => e = .returned (.string r) ∧ Below w.heap.size w w' := by
 have HTAB := Aside0.mk htab
 clear htab
 have hu27 := Tryz.underlying27
 have HB := asd (Below.refl w.heap.size w)
 have H : ((impl_IsVec.f a0_0 a0_1).bind fun t486 => (if t486 = true then ((impl_joined.f k (⟨#[44]⟩ : ByteArray) (([a0_0, a0_1] : List Int))).bind fun t490 => (some t490)) else (some (⟨#[]⟩ : ByteArray)))) = some r := h
 clear h
 obtain ⟨t486, A2, H⟩ := ob H
 try dsimp only at H
 by_cases c3 : t486 = true
 ·subst c3
  replace H := ifT H
  obtain ⟨y487, hy487⟩ : ∃ y_ : List Int, y_ = (([a0_0, a0_1] : List Int)) := ⟨_, rfl⟩
  replace H : ((impl_joined.f k (⟨#[44]⟩ : ByteArray) y487).bind fun t490 => (some t490)) = some r := by first | (rw [hy487]; with_reducible exact H) | (have H2_ := (Option.bind_some _ _).symm.trans H; rw [hy487]; with_reducible exact H2_) | (have H2_ := (Option.bind_some _ _).symm.trans H; with_reducible exact H2_) | with_reducible exact H | (rw [hy487]; exact H) | exact H
  have Ny487 := Aside0.mk hy487
  clear hy487
  obtain ⟨t490, A4, H⟩ := ob H
  try dsimp only at H
  obtain rfl := Option.some.inj H
  go_enter Tryz.func42, Tryz.ntmps42
  go_wp2_with (first | ((with_reducible refine gd 1 rfl ?_); refine bx #[.int .i64 a0_0, .int .i64 a0_1] 27 ?_; intro gb485 hg w5 BK485 hb; have GE485 := ngw0 hg HB; replace HB := bS0 HB hb; clear hb hg; obtain ⟨hcz6_0, hcz6_1, hfz6_0, hfz6_1⟩ := bz2 BK485) | ((with_reducible refine gate_callee (f := 37) rfl ?_); refine gl 4 Tryz.func37 #[.agg #[.int .i64 a0_0, .int .i64 a0_1]] ?_; (with_reducible refine (impl_IsVec.calls _ _ _ _ A2.out).mono ?_); rintro e w7 ⟨rfl, hb⟩; refine ⟨_, rfl, ?_⟩; replace BK485 := bB BK485 hb; replace HB := bS1 HB GE485 hb; (try clear hb); obtain ⟨hcz8_0, hcz8_1, hfz8_0, hfz8_1⟩ := bz2 BK485) | ((with_reducible refine gd 10 rfl ?_); refine Kd.R_lit (Kd.int .i64) _ 2 ?hg (N := 10) ?hd (xs := ([a0_0, a0_1] : List Int)) (inner := [.int .i64 a0_0, .int .i64 a0_1]) (ok := fun _ => True) (okp := fun _ => True) ?hr ?hp (fun _ hk => hk) trivial (Below.refl _ _) (Nat.le_refl _) (by simp) ?_; (case hd => rfl); (case hg => rfl); (case hr => first | (go_simp; done) | (go_simp; rfl)); (case hp => exact (Reps.one (show Kd.M (Kd.int .i64) _ _ _ a0_0 [.int .i64 a0_0] from rfl) (Reps.one (show Kd.M (Kd.int .i64) _ _ _ a0_1 [.int .i64 a0_1] from rfl) (Reps.none _ _)))); intro v488 w9 ho10 hb hg_ hnew_; clear hg_ hnew_; (first | rw [← Ny487.out] at ho10 | (simp only [Int.reduceToNat] at ho10; rw [← Ny487.out] at ho10)); have HO489 := asd (Kd.R_lower ho10 (bsz1 HB GE485)); replace BK485 := bB BK485 hb; replace HB := bS1 HB GE485 hb; clear hb ho10; obtain ⟨Ao11, co11, eo11⟩ := Kd.R_slice HO489.out; subst eo11) | ((with_reducible refine gate_callee (f := 62) rfl ?_); refine gl 11 Tryz.func62 #[.string (⟨#[44]⟩ : ByteArray), .slice Ao11 y487.length co11] ?_; (with_reducible refine (impl_joined.calls _ _ _ _ _ _ _ ?side1 ?side2 (texts.tabB HTAB.out (by repeat (first | (with_reducible first | exact HB.out | exact Below.refl _ _ | apply below_alloc | apply pw_below_drewN | apply below_drew1 | refine below_set ?_ GE485.out) | exact HB.out))) A4.out).mono ?_); (case side1 => exact ks (Kd.R_reads' HO489.out).2.2); (case side2 => exact (Kd.R_reads' HO489.out).2.1); rintro e w12 ⟨rfl, hb⟩; refine ⟨_, rfl, ?_⟩; replace HO489 := asd (Kd.R_below (kr HO489) hb); replace BK485 := bB BK485 hb; replace HB := bS1 HB GE485 hb; (try clear hb)))
  go_ret
  exact er (bbw1 HB GE485)
 ·replace c3 := Bool.eq_false_iff.mpr c3
  subst c3
  replace H := ifF H
  obtain rfl := Option.some.inj H
  go_enter Tryz.func42, Tryz.ntmps42
  go_wp2_with (first | ((with_reducible refine gd 1 rfl ?_); refine bx #[.int .i64 a0_0, .int .i64 a0_1] 27 ?_; intro gb485 hg w13 BK485 hb; have GE485 := ngw0 hg HB; replace HB := bS0 HB hb; clear hb hg; obtain ⟨hcz14_0, hcz14_1, hfz14_0, hfz14_1⟩ := bz2 BK485) | ((with_reducible refine gate_callee (f := 37) rfl ?_); refine gl 4 Tryz.func37 #[.agg #[.int .i64 a0_0, .int .i64 a0_1]] ?_; (with_reducible refine (impl_IsVec.calls _ _ _ _ A2.out).mono ?_); rintro e w15 ⟨rfl, hb⟩; refine ⟨_, rfl, ?_⟩; replace BK485 := bB BK485 hb; replace HB := bS1 HB GE485 hb; (try clear hb)))
  go_ret
  exact er (bbw1 HB GE485)
/-! ### impl_MotionText: function 10 -/
def impl_MotionText.f (k : Nat) (a0_0 : Int) (a0_1 : Int) (a0_2 : Int) (a0_3 : Int) (a0_4 : Int) (a0_5 : Int) : Option (ByteArray) := (impl_IsMotion.f k a0_0 a0_1 a0_2 a0_3 a0_4 a0_5).bind fun t492 => (if t492 = true then ((impl_MatText.f k a0_0 a0_1 a0_2 a0_3).bind fun t493 => (if t493.size + 1 ≤ 9223372036854775807 then ((impl_VecText.f k a0_4 a0_5).bind fun t494 => (if (t493 ++ (⟨#[59]⟩ : ByteArray)).size + t494.size ≤ 9223372036854775807 then (some ((t493 ++ (⟨#[59]⟩ : ByteArray)) ++ t494)) else (none))) else (none))) else (some (⟨#[]⟩ : ByteArray)))
def impl_MotionText.T3 : Bool × List (List Nat × List Nat) := (true, [([], []), ([0], [0]), ([1], [1]), ([2], [2]), ([], []), ([4], [4]), ([5, 2], [5]), ([3, 6], [3, 6]), ([7, 6, 0, 1, 2, 3, 4, 5, 6, 7], [7])])
def impl_MotionText.B3 : List Nat := [0, 1, 3, 7, 0, 16, 55, 127, 255]
theorem impl_MotionText.tab3 : rtab .any (opsOf Tryz.f10 3) = impl_MotionText.T3 := by kernel_rfl
theorem impl_MotionText.bits3 : waitsOk impl_MotionText.T3.2 impl_MotionText.B3 = true := by kernel_rfl
set_option maxHeartbeats 8000000 in
set_option maxRecDepth 100000 in
theorem impl_MotionText.calls (k : Nat) (a0_0 : Int) (a0_1 : Int) (a0_2 : Int) (a0_3 : Int) (a0_4 : Int) (a0_5 : Int) (r : ByteArray) (w : World) (htab : texts.Tab w) (h : impl_MotionText.f k a0_0 a0_1 a0_2 a0_3 a0_4 a0_5 = some r) :
  Calls Tryz.prog 10 #[.agg #[.int .i64 a0_0, .int .i64 a0_1, .int .i64 a0_2, .int .i64 a0_3, .int .i64 a0_4, .int .i64 a0_5]] w fun e w' => e = .returned (.string r) ∧ Below w.heap.size w w' := by
 have HTAB := Aside0.mk htab
 clear htab
 have hu29 := Tryz.underlying29
 have hu25 := Tryz.underlying25
 have hu27 := Tryz.underlying27
 have HB := asd (Below.refl w.heap.size w)
 have H : ((impl_IsMotion.f k a0_0 a0_1 a0_2 a0_3 a0_4 a0_5).bind fun t492 => (if t492 = true then ((impl_MatText.f k a0_0 a0_1 a0_2 a0_3).bind fun t493 => (if t493.size + 1 ≤ 9223372036854775807 then ((impl_VecText.f k a0_4 a0_5).bind fun t494 => (if (t493 ++ (⟨#[59]⟩ : ByteArray)).size + t494.size ≤ 9223372036854775807 then (some ((t493 ++ (⟨#[59]⟩ : ByteArray)) ++ t494)) else (none))) else (none))) else (some (⟨#[]⟩ : ByteArray)))) = some r := h
 clear h
 obtain ⟨t492, A2, H⟩ := ob H
 try dsimp only at H
 by_cases c3 : t492 = true
 ·subst c3
  replace H := ifT H
  obtain ⟨t493, A4, H⟩ := ob H
  try dsimp only at H
  by_cases c5 : t493.size + 1 ≤ 9223372036854775807
  ·rw [if_pos c5] at H
   have c5b0 := eq_true c5
   have c5b1 := decide_eq_true c5
   try have c5b2 : (9223372036854775807 < t493.size + 1) = False := eq_false (Nat.not_lt.2 c5)
   obtain ⟨t494, A6, H⟩ := ob H
   try dsimp only at H
   by_cases c7 : (t493 ++ (⟨#[59]⟩ : ByteArray)).size + t494.size ≤ 9223372036854775807
   ·rw [if_pos c7] at H
    have c7b0 := eq_true c7
    have c7b1 := decide_eq_true c7
    try have c7b2 : (9223372036854775807 < (t493 ++ (⟨#[59]⟩ : ByteArray)).size + t494.size) = False := eq_false (Nat.not_lt.2 c7)
    try (have c7b3 := c7b2; simp only [ByteArray.size_append] at c7b3)
    try (have c7b4 := c7b2; simp only [ByteArray.size_append, show (⟨#[59]⟩ : ByteArray).size = 1 from rfl] at c7b4)
    obtain rfl := Option.some.inj H
    go_enter Tryz.func10, Tryz.ntmps10
    try go_wp2_with (first | ((with_reducible refine gd 1 rfl ?_); refine bx #[.int .i64 a0_0, .int .i64 a0_1, .int .i64 a0_2, .int .i64 a0_3, .int .i64 a0_4, .int .i64 a0_5] 29 ?_; intro gb491 hg w8 BK491 hb; have GE491 := ngw0 hg HB; replace HB := bS0 HB hb; clear hb hg; obtain ⟨hcz9_0, hcz9_1, hcz9_2, hcz9_3, hcz9_4, hcz9_5, hfz9_0, hfz9_1, hfz9_2, hfz9_3, hfz9_4, hfz9_5⟩ := bz6 BK491) | ((with_reducible refine gate_callee (f := 34) rfl ?_); refine gl 4 Tryz.func34 #[.agg #[.int .i64 a0_0, .int .i64 a0_1, .int .i64 a0_2, .int .i64 a0_3, .int .i64 a0_4, .int .i64 a0_5]] ?_; (with_reducible refine (impl_IsMotion.calls _ _ _ _ _ _ _ _ _ A2.out).mono ?_); rintro e w10 ⟨rfl, hb⟩; refine ⟨_, rfl, ?_⟩; replace BK491 := bB BK491 hb; replace HB := bS1 HB GE491 hb; (try clear hb)))
    replace BK491 := asd (blk_drew BK491.out)
    replace HB := asd (below_drew1 HB.out)
    refine sh 9 (eb6 BK491) (fun hHeld => ?_); refine with_tabW impl_MotionText.tab3 impl_MotionText.bits3 (fun HT_ HW_ => ?_)
    generalize w10.drew = w11 at BK491 HB hHeld ⊢
    refine pu 0 (some 6) (bT 9 1) HT_ ?_
    refine pu 4 (some 10) (bs 9 17) HT_ ?_
    refine ta 1 (some 7) (bs 9 19) HT_ HW_ hHeld ?_
    refine ta 5 (some 11) (bs 9 51) HT_ HW_ hHeld ?_
    refine ro 2 (some 8) (bs 9 55) HT_ (fun K hK => ?_)
    refine gs Tryz.func18 #[.agg #[.int .i64 a0_0, .int .i64 a0_1, .int .i64 a0_2, .int .i64 a0_3]] ?_
    with_reducible refine (impl_MatText.calls _ _ _ _ _ _ _ (texts.tabB HTAB.out (by repeat (first | (with_reducible first | exact HB.out | exact Below.refl _ _ | apply below_alloc | apply pw_below_drewN | apply below_drew1 | refine below_set ?_ GE491.out) | exact HB.out))) A4.out).mono ?_
    rintro e w12 ⟨rfl, hb⟩
    refine ⟨_, rfl, ?_⟩
    replace BK491 := bB BK491 hb
    replace HB := bS1 HB GE491 hb
    (try clear hb)
    (try clear hb2)
    (try clear hk)
    (try clear hi)
    refine hK.out _ _ (eb6 BK491).out (fun hHeld => ?_)
    clear hK K
    refine norm_ (a' := ?_) ?_ ?_
    rotate_left
    ·show Act.put _ (some 8) _ = _
     simp only [Act.put, sA, sB, sC, i64_w, i32_w]
     rfl
    refine pu 3 (some 9) (bT 9 6) HT_ ?_
    refine ro 6 (some 12) (bT 9 7) HT_ (fun K hK => ?_)
    refine gs Tryz.func42 #[.agg #[.int .i64 a0_4, .int .i64 a0_5]] ?_
    with_reducible refine (impl_VecText.calls _ _ _ _ _ (texts.tabB HTAB.out (by repeat (first | (with_reducible first | exact HB.out | exact Below.refl _ _ | apply below_alloc | apply pw_below_drewN | apply below_drew1 | refine below_set ?_ GE491.out) | exact HB.out))) A6.out).mono ?_
    rintro e w13 ⟨rfl, hb⟩
    refine ⟨_, rfl, ?_⟩
    replace BK491 := bB BK491 hb
    replace HB := bS1 HB GE491 hb
    (try clear hb)
    (try clear hb2)
    (try clear hk)
    (try clear hi)
    refine hK.out _ _ (eb6 BK491).out (fun hHeld => ?_)
    clear hK K
    refine norm_ (a' := ?_) ?_ ?_
    rotate_left
    ·show Act.put _ (some 12) _ = _
     simp only [Act.put, sA, sB, sC, i64_w, i32_w]
     rfl
    refine pu 7 (some 13) (bT 9 8) HT_ ?_
    refine pu 8 (some 2) (bT 9 9) HT_ ?_
    refine done_ (done_of HT_.out (by kernel_rfl)) ?_
    try go_wp2
    go_ret
    exact er (bbw1 HB GE491)
   ·rw [if_neg c7] at H
    exact absurd H (by simp)
  ·rw [if_neg c5] at H
   exact absurd H (by simp)
 ·replace c3 := Bool.eq_false_iff.mpr c3
  subst c3
  replace H := ifF H
  obtain rfl := Option.some.inj H
  go_enter Tryz.func10, Tryz.ntmps10
  go_wp2_with (first | ((with_reducible refine gd 1 rfl ?_); refine bx #[.int .i64 a0_0, .int .i64 a0_1, .int .i64 a0_2, .int .i64 a0_3, .int .i64 a0_4, .int .i64 a0_5] 29 ?_; intro gb491 hg w14 BK491 hb; have GE491 := ngw0 hg HB; replace HB := bS0 HB hb; clear hb hg; obtain ⟨hcz15_0, hcz15_1, hcz15_2, hcz15_3, hcz15_4, hcz15_5, hfz15_0, hfz15_1, hfz15_2, hfz15_3, hfz15_4, hfz15_5⟩ := bz6 BK491) | ((with_reducible refine gate_callee (f := 34) rfl ?_); refine gl 4 Tryz.func34 #[.agg #[.int .i64 a0_0, .int .i64 a0_1, .int .i64 a0_2, .int .i64 a0_3, .int .i64 a0_4, .int .i64 a0_5]] ?_; (with_reducible refine (impl_IsMotion.calls _ _ _ _ _ _ _ _ _ A2.out).mono ?_); rintro e w16 ⟨rfl, hb⟩; refine ⟨_, rfl, ?_⟩; replace BK491 := bB BK491 hb; replace HB := bS1 HB GE491 hb; (try clear hb)))
  go_ret
  exact er (bbw1 HB GE491)
/-! ### strings_Split: function 74 -/
/-- A text's pieces between a separator that is not empty. -/
def strings_Split.f (a0 a1 : ByteArray) : Option (List ByteArray) := if a0.size < 4294967281 ∧ 1 ≤ a1.size then some (Lib.splitB a1 0 (Lib.countB a0 a1) a0) else none
theorem strings_Split.made (w : World) (rs : List ByteArray) (n : Nat) (hn : n = rs.length) (hm : rs.length ≤ maxLen) : Kd.R Kd.string 9 (w.alloc (.cells (rs.map Value.string).toArray 9)) w.heap.size (fun _ => True) (.slice (some ⟨w.heap.size, 0, none⟩) n n) rs := by
 subst hn
 refine ⟨fun _ _ => trivial, rs.map Value.string, ?_, ?_⟩
 ·have := World.ownsRow_lit (base := w.heap.size) (e := 9) (size := Kd.string.sz) w (rs.map Value.string).toArray rs.length (Nat.le_refl _) hm (by show (rs.map Value.string).toArray.size = rs.length * 1; simp)
  simpa using this
 ·refine ⟨by simp [Kd.string, Kd.scalar], fun j p hp => ?_⟩
  show _ = [Value.string p]
  have hj : j < rs.length := (List.getElem?_eq_some_iff.1 hp).1
  have e : (rs.map Value.string)[j]? = some (Value.string p) := by rw [List.getElem?_map, hp]; rfl
  show ((rs.map Value.string).drop (j * 1)).take 1 = [Value.string p]
  rw [Nat.mul_one, List.drop_eq_getElem_cons (by simpa using hj), List.take_succ_cons, List.take_zero]
  congr 1
  have := List.getElem?_eq_some_iff.1 e
  exact this.2
theorem strings_Split.calls (a0 a1 : ByteArray) (r : List ByteArray) (w : World) (htab : texts.Tab w) (h : strings_Split.f a0 a1 = some r) : Calls Tryz.prog 74 #[.string a0, .string a1] w fun e w' => ∃ v0_ : Value, e = .returned (v0_) ∧ Kd.R Kd.string 9 w' w.heap.size (fun _ => True) v0_ r ∧ Below w.heap.size w w' := by
 unfold strings_Split.f at h
 by_cases hc : a0.size < 4294967281 ∧ 1 ≤ a1.size
 ·rw [if_pos hc] at h
  obtain rfl := Option.some.inj h
  obtain ⟨m, hm⟩ := htab.maxlen
  refine (Tryz.strings_Split a0 a1 m w hc.1 hm hc.2).mono ?_
  rintro e w' ⟨rfl, rfl⟩
  have hl := Lib.splitB_all a1 hc.2 0 _ a0 rfl
  have hle := Lib.countB_le a1 hc.2 a0.size a0 (Nat.le_refl _)
  exact ⟨_, rfl, strings_Split.made w _ _ hl.symm (by unfold maxLen; omega), below_alloc (Below.refl _ _) _⟩
 ·rw [if_neg hc] at h; cases h
/-! ### impl_number: function 105 -/
/-- The number with a text, and whether there is one. -/
def impl_number.f (a0 : ByteArray) : Option (Int × Bool) := if a0.size ≤ 281474976710656 then (match Lib.parseIntB 64 a0.data.toList with
 | .ok v => some (v, (⟨(Lib.itoa v).toArray⟩ : ByteArray).toList == a0.toList)
 | .range => some (Lib.intSat 64 a0.data.toList, false)
 | Lib.NumEnd.syntax => some (0, false)) else none
theorem impl_number.rng {l : List UInt8} {v : Int} (h : Lib.parseIntB 64 l = .ok v) : -9223372036854775808 ≤ v ∧ v ≤ 9223372036854775807 := by
 cases l with
 | nil => cases h
 | cons c r =>
  simp only [Lib.parseIntB] at h
  generalize Lib.parseUintB 64 (if c.toNat = 43 ∨ c.toNat = 45 then r else c :: r) = q at h
  cases q with
  | ok u =>
   simp only at h
   by_cases c1 : ¬ c.toNat = 45 ∧ 2 ^ (64 - 1) ≤ u
   ·rw [if_pos c1] at h; cases h
   ·rw [if_neg c1] at h
    by_cases c2 : c.toNat = 45 ∧ 2 ^ (64 - 1) < u
    ·rw [if_pos c2] at h; cases h
    ·rw [if_neg c2] at h
     injection h with h
     subst h
     by_cases c3 : c.toNat = 45
     ·rw [if_pos c3]; omega
     ·rw [if_neg c3]; omega
  | _ => cases h
set_option maxHeartbeats 8000000 in
set_option maxRecDepth 100000 in
theorem impl_number.calls (a0 : ByteArray) (r1 : Int) (r2 : Bool) (w : World) (htab : texts.Tab w) (h : impl_number.f a0 = some (r1, r2)) : Calls Tryz.prog 105 #[.string a0] w fun e w' => e = .returned (.tuple #[.int .i64 r1, .bool r2]) ∧ Below w.heap.size w w' := by
 unfold impl_number.f at h
 by_cases hc : a0.size ≤ 281474976710656
 ·rw [if_pos hc] at h
  cases hp : Lib.parseIntB 64 a0.data.toList with
  | ok v =>
   rw [hp] at h
   injection h with h; injection h with h1 h2
   subst h1 h2
   obtain ⟨q0, q1⟩ := impl_number.rng hp
   have ht : impl_text.f v = some ⟨(Lib.itoa v).toArray⟩ := by
    unfold impl_text.f strconv_FormatInt.f
    rw [if_pos ⟨⟨q0, q1⟩, rfl⟩]; rfl
   have hcall := Tryz.strconv_ParseInt_10_at64_ok a0 (by omega) v hp w
   have htext := fun (w1 : World) (hb : Below w.heap.size w w1) => impl_text.calls v _ w1 (texts.tabB htab hb) ht
   go_enter Tryz.func105, Tryz.ntmps105
   go_wp2_with (first | ((with_reducible refine gate_callee (f := 134) rfl ?_); refine goesL_ (some 8) rfl rfl Tryz.func134 (by kernel_rfl) rfl #[.string a0, .int .i64 10, .int .i64 64] rfl (by (try simp only [List.map_toArray, List.map_cons, List.map_nil]); first | done | rfl) ?_; refine hcall.mono ?_; rintro e w1 ⟨rfl, hw⟩; have hb1 : Below w.heap.size w w1 := (by rcases hw with rfl | ⟨t, rfl⟩; exact Below.refl _ _; exact Go.Joins.below_bytesWorld _ _ _ _ (Nat.le_refl _)); clear hw; refine ⟨_, rfl, ?_⟩) | (go_at_call 103; refine (htext _ (by repeat (first | exact hb1 | apply pw_below_drewN | apply below_drew1))).mono ?_; rintro e w2 ⟨rfl, hb⟩; have hb2 := Below.trans hb1 (Below.mono hb hb1.size)))
   go_ret2
   exact ⟨by first | rfl | (simp; done), by repeat (first | exact hb2 | apply pw_below_drewN | apply below_drew1)⟩
  | range =>
   rw [hp] at h
   injection h with h; injection h with h1 h2
   subst h1 h2
   obtain ⟨ev, hv, hev⟩ := htab.errrange
   have hcall := Tryz.strconv_ParseInt_10_at64_range a0 hc hp ev w hv hev
   go_enter Tryz.func105, Tryz.ntmps105
   go_wp2_with (first | ((with_reducible refine gate_callee (f := 134) rfl ?_); refine goesL_ (some 8) rfl rfl Tryz.func134 (by kernel_rfl) rfl #[.string a0, .int .i64 10, .int .i64 64] rfl (by (try simp only [List.map_toArray, List.map_cons, List.map_nil]); first | done | rfl) ?_; refine hcall.mono ?_; rintro e w1 ⟨N, rfl, hN, hcell, hb1⟩; refine ⟨_, rfl, ?_⟩))
   go_ret2
   exact ⟨by first | rfl | (simp; done), by repeat (first | exact hb1 | apply pw_below_drewN | apply below_drew1)⟩
  | _ =>
   rw [hp] at h
   injection h with h; injection h with h1 h2
   subst h1 h2
   obtain ⟨ev, hv, hev⟩ := htab.errsyntax
   have hcall := Tryz.strconv_ParseInt_10_at64_syntax a0 hc hp ev w hv hev
   go_enter Tryz.func105, Tryz.ntmps105
   go_wp2_with (first | ((with_reducible refine gate_callee (f := 134) rfl ?_); refine goesL_ (some 8) rfl rfl Tryz.func134 (by kernel_rfl) rfl #[.string a0, .int .i64 10, .int .i64 64] rfl (by (try simp only [List.map_toArray, List.map_cons, List.map_nil]); first | done | rfl) ?_; refine hcall.mono ?_; rintro e w1 ⟨N, rfl, hN, hcell, hb1⟩; refine ⟨_, rfl, ?_⟩))
   go_ret2
   exact ⟨by first | rfl | (simp; done), by repeat (first | exact hb1 | apply pw_below_drewN | apply below_drew1)⟩
 ·rw [if_neg hc] at h; cases h
/-! ### impl_parted: function 63 -/
def impl_parted.l0 : Nat → List Int → List ByteArray → Int → Int → Option (List Int × Bool)
 | 0, _, _, _, _ => none
 | k + 1, x9, x22, x23, x24 => if x24 < x23 then (if 0 ≤ x24 then (if x24 < (x22.length : Int) then ((impl_number.f (rdOf ByteArray.empty x22 x24)).bind fun bt502 => (if bt502.2 = true then (if x9.length < 17592186044416 then (impl_parted.l0 k (x9 ++ [bt502.1]) x22 x23 (wrap64 (x24 + 1))) else (none)) else (some (([] : List Int), false)))) else (none)) else (none)) else (some (x9, true))
def impl_parted.f (k : Nat) (a0 : ByteArray) (a1 : ByteArray) (a2 : Int) : Option (List Int × Bool) := (strings_Split.f a0 a1).bind fun t495 => (if (t495.length : Int) = a2 then (impl_parted.l0 k (([] : List Int)) t495 (t495.length : Int) 0) else (some (([] : List Int), false)))
set_option maxHeartbeats 8000000 in
set_option maxRecDepth 100000 in
theorem impl_parted.calls (k : Nat) (a0 : ByteArray) (a1 : ByteArray) (a2 : Int) (r1 : List Int) (r2 : Bool) (w : World) (htab : texts.Tab w) (h : impl_parted.f k a0 a1 a2 = some (r1, r2)) :
  Calls Tryz.prog 63 #[.string a0, .string a1, .int .i64 a2] w fun e w' => ∃ v0_ : Value, e = .returned (.tuple #[v0_, .bool r2]) ∧ Kd.R (Kd.int .i64) 2 w' w.heap.size (fun _ => True) v0_ r1 ∧ Below w.heap.size w w' := by
 have HTAB := Aside0.mk htab
 clear htab
 have HB := asd (Below.refl w.heap.size w)
 have H : ((strings_Split.f a0 a1).bind fun t495 => (if (t495.length : Int) = a2 then (impl_parted.l0 k (([] : List Int)) t495 (t495.length : Int) 0) else (some (([] : List Int), false)))) = some (r1, r2) := h
 clear h
 obtain ⟨t495, A4, H⟩ := ob H
 try dsimp only at H
 by_cases c5 : (t495.length : Int) = a2
 rw [if_pos c5] at H
 have c5b0 : ((t495.length : Int) == a2) = true := beq_iff_eq.mpr c5
 have c5b1 : ((t495.length : Int) != a2) = false := bne_eq_false_iff_eq.mpr c5
 clear c5
 obtain ⟨y498, hy498⟩ : ∃ y_ : List Int, y_ = (([] : List Int)) := ⟨_, rfl⟩
 replace H : (impl_parted.l0 k y498 t495 (t495.length : Int) 0) = some (r1, r2) := by first | (rw [hy498]; with_reducible exact H) | (have H2_ := (Option.bind_some _ _).symm.trans H; rw [hy498]; with_reducible exact H2_) | (have H2_ := (Option.bind_some _ _).symm.trans H; with_reducible exact H2_) | with_reducible exact H | (rw [hy498]; exact H) | exact H
 have Ny498 := Aside0.mk hy498
 clear hy498
 have H' := Aside0.mk H
 clear H
 rotate_left
 rw [if_neg c5] at H
 have c5b0 : ((t495.length : Int) == a2) = false := beq_eq_false_iff_ne.mpr c5
 have c5b1 : ((t495.length : Int) != a2) = true := bne_iff_ne.mpr c5
 rotate_left
 rotate_left
 simp only [Option.some.injEq, Prod.mk.injEq] at H
 obtain ⟨rfl, rfl⟩ := H
 rotate_left
 all_goals
  go_enter Tryz.func63, Tryz.ntmps63
  go_wp2_with (first | ((with_reducible refine gate_callee (f := 74) rfl ?_); refine gl 16 Tryz.func74 #[.string a0, .string a1] ?_; (with_reducible refine (strings_Split.calls _ _ _ _ (texts.tabB HTAB.out (by repeat (first | (with_reducible first | exact HB.out | exact Below.refl _ _ | apply below_alloc | apply pw_below_drewN | apply below_drew1) | exact HB.out))) A4.out).mono ?_); rintro e w6 ⟨v496, rfl, ho0, hb⟩; refine ⟨_, rfl, ?_⟩; have HO497 := asd (Kd.R_lower ho0 (bsz0 HB)); replace HB := bS0 HB hb; (try clear hb); (try clear hb2); (try clear hk); (try clear hi); (try clear ho0); obtain ⟨Ao7, co7, eo7⟩ := Kd.R_slice HO497.out; subst eo7) | ((with_reducible refine gd 21 rfl ?_); refine Kd.R_lit (Kd.int .i64) _ 2 ?hg (N := 21) ?hd (xs := ([] : List Int)) (inner := []) (ok := fun _ => True) (okp := fun _ => True) ?hr ?hp (fun _ hk => hk) trivial (Below.refl _ _) (Nat.le_refl _) (by simp) ?_; (case hd => rfl); (case hg => rfl); (case hr => first | (go_simp; done) | (go_simp; rfl)); (case hp => exact (Reps.none _ _)); intro v499 w8 ho9 hb hg_ hnew_; clear hg_ hnew_; (first | rw [← Ny498.out] at ho9 | (simp only [Int.reduceToNat] at ho9; rw [← Ny498.out] at ho9)); replace HO497 := asd (Kd.R_below (kr HO497) hb); have HO500 := asd (Kd.R_lower ho9 (bsz0 HB)); replace HB := bS0 HB hb; clear hb ho9))
 ·go_loopg [9, 24] k (fun kq v9 v24 w' => ∃ (x9_1 : List Int) (x24_1 : Int), v24 = .int .i64 x24_1 ∧ Aside0 (impl_parted.l0 kq x9_1 t495 (t495.length : Int) x24_1 = some (r1, r2)) ∧ Aside0 (kq ≤ k) ∧ Aside0 (Kd.R (Kd.int .i64) 2 w' w.heap.size (fun _ => True) v9 x9_1) ∧ Aside0 (Kd.R Kd.string 9 w' w.heap.size (fun _ => True) (.slice Ao7 t495.length co7) t495) ∧ Aside0 (Below w.heap.size w w'))
  case atStart => exact ⟨(y498), (0), (by first | rfl | (simp; done) | (simp [*]; done)), H', ⟨Nat.le_refl _⟩, ⟨by (with_reducible repeat (first | apply Kd.R_alloc | apply Kd.R_drewN | apply Kd.R_drew)); exact HO500.out⟩, ⟨by (with_reducible repeat (first | apply Kd.R_alloc | apply Kd.R_drewN | apply Kd.R_drew)); exact HO497.out⟩, ⟨bbw0 HB⟩⟩
  case round =>
   clear H'
   try clear p2
   try clear c5
   try clear c5b0
   try clear c5b1
   try clear c6
   try clear c7
   obtain ⟨x9_1, x24_1, rfl, HA, HK1, HO_9, HO_22, HB⟩ := hrel
   cases gk with
   | zero => exact absurd HA.out (by simp [impl_parted.l0])
   | succ k1 =>
    have H := HA.out
    clear HA
    simp only [impl_parted.l0] at H
    by_cases c10 : x24_1 < (t495.length : Int)
    rw [if_pos c10] at H
    have c10b0 := decide_eq_true c10
    clear c10
    by_cases c11 : 0 ≤ x24_1
    rw [if_pos c11] at H
    have c11b0 := decide_eq_true c11
    clear c11
    by_cases c12 : x24_1 < (t495.length : Int)
    rw [if_pos c12] at H
    have c12b0 := decide_eq_true c12
    clear c12
    obtain ⟨⟨t502, t503⟩, A13, H⟩ := ob H
    try dsimp only at H
    by_cases c14 : t503 = true
    subst c14
    replace H := ifT H
    by_cases c15 : x9_1.length < 17592186044416
    rw [if_pos c15] at H
    have LMc15 := Aside0.mk c15
    clear c15
    obtain ⟨y504, hy504⟩ : ∃ y_ : List Int, y_ = (x9_1 ++ [t502]) := ⟨_, rfl⟩
    replace H : (impl_parted.l0 k1 y504 t495 (t495.length : Int) (wrap64 (x24_1 + 1))) = some (r1, r2) := by first | (rw [hy504]; with_reducible exact H) | (have H2_ := (Option.bind_some _ _).symm.trans H; rw [hy504]; with_reducible exact H2_) | (have H2_ := (Option.bind_some _ _).symm.trans H; with_reducible exact H2_) | with_reducible exact H | (rw [hy504]; exact H) | exact H
    have Ny504 := Aside0.mk hy504
    clear hy504
    have H' := Aside0.mk H
    clear H
    rotate_left
    ·rw [if_neg c15] at H
     exact absurd H (by simp)
    replace c14 := Bool.eq_false_iff.mpr c14
    subst c14
    replace H := ifF H
    rotate_left
    ·rw [if_neg c12] at H
     exact absurd H (by simp)
    ·rw [if_neg c11] at H
     exact absurd H (by simp)
    rw [if_neg c10] at H
    have c10b0 := decide_eq_false c10
    clear c10
    rotate_left
    rotate_left
    simp only [Option.some.injEq, Prod.mk.injEq] at H
    obtain ⟨rfl, rfl⟩ := H
    rotate_left
    ·simp only [Option.some.injEq, Prod.mk.injEq] at H
     obtain ⟨rfl, rfl⟩ := H
     go_wp2
     go_ret2
     exact ⟨_, by first | rfl | (simp [errW_none, errW_some] <;> rfl) | (simp [*, errW_none, errW_some] <;> rfl), by (with_reducible repeat (first | apply Kd.R_alloc | apply Kd.R_drewN | apply Kd.R_drew)); exact HO_9.out, bbw0 HB⟩
    all_goals
     have p501 : 0 ≤ (x24_1 : Int) := od
     have q501 : x24_1 < (t495.length : Int) := od
     obtain ⟨ad501, e501, hx501_0⟩ := Kd.at_string (Kd.R_reads' HO_22.out).2.2 x24_1 p501 q501
     cases e501
     replace p501 := eq_true p501
     replace q501 := eq_true q501
     go_wp2_with (first | ((with_reducible refine gate_callee (f := 105) rfl ?_); refine gl 30 Tryz.func105 #[.string (rdOf ByteArray.empty t495 x24_1)] ?_; (with_reducible refine (impl_number.calls _ _ _ _ (texts.tabB HTAB.out (by repeat (first | (with_reducible first | exact HB.out | exact Below.refl _ _ | apply below_alloc | apply pw_below_drewN | apply below_drew1) | exact HB.out))) A13.out).mono ?_); rintro e w16 ⟨rfl, hb⟩; refine ⟨_, rfl, ?_⟩; replace HO_9 := asd (Kd.R_below (kr HO_9) hb); replace HO_22 := asd (Kd.R_below (kr HO_22) hb); replace HB := bS0 HB hb; (try clear hb)) | ((with_reducible refine gate_builtin (b := .append) (xs := #[.tmp 35, .tmp 37]) rfl ?_); at_builtin; refine Kd.R_append (Kd.int .i64) (w0 := w) w.heap.size rfl (.tmp 35) (.tmp 37) 48 2 (.int .i64 0) 8 rfl Tryz.underlying48 info2 rfl (by decide) (by omega) u9 x9_1 t502 [.int .i64 t502] (fun _ => True) (fun _ => False) rfl rfl ?aP (fun _ hk => hk.elim) ?aF ?aO ?aB ?aS ?aL ?_; (case aP => exact rfl); (case aB => exact (bbw0 HB)); (case aF => exact (fun _ _ => trivial)); (case aO => exact (kr HO_9)); (case aS => exact (bsz0 HB)); (case aL => have := LMc15.out; omega); intro v505 w17 ho hb hg hat; rw [← Ny504.out] at ho; have n0_ := asd (Kd.R_over' (kr HO_22) (Kd.R_typed (kr HO_9)) (by decide) hg); have n1_ := asd (hb); have n2_ := asd (ho); clear HO_22; clear HB; clear HO_9; have HO_22 := n0_; have HB := n1_; have HO506 := n2_; clear n0_ n1_ n2_; clear ho hb hg hat))
    ·go_roundg k1
     case measure => have := HK1.out; omega
     case rel => exact ⟨(y504), (wrap64 (x24_1 + 1)), (by first | rfl | (simp; done) | (simp [*]; done)), H', ⟨by have := HK1.out; omega⟩, ⟨by (with_reducible repeat (first | apply Kd.R_alloc | apply Kd.R_drewN | apply Kd.R_drew)); exact HO506.out⟩, ⟨by (with_reducible repeat (first | apply Kd.R_alloc | apply Kd.R_drewN | apply Kd.R_drew)); exact HO_22.out⟩, ⟨bbw0 HB⟩⟩
    ·go_ret2
     exact ⟨_, by first | rfl | (simp [errW_none, errW_some] <;> rfl) | (simp [*, errW_none, errW_some] <;> rfl), by first | exact Kd.R_nil _ _ _ _ _ | exact Kd.N_nil _ _ _ _ _ | exact Kd.V_nil _ _ _ _ _ | exact Kd.Q_nil _ _ _ _ _ | exact Kd.S_nil _ _ _ _ _, bbw0 HB⟩
 ·go_ret2
  exact ⟨_, by first | rfl | (simp [errW_none, errW_some] <;> rfl) | (simp [*, errW_none, errW_some] <;> rfl), by first | exact Kd.R_nil _ _ _ _ _ | exact Kd.N_nil _ _ _ _ _ | exact Kd.V_nil _ _ _ _ _ | exact Kd.Q_nil _ _ _ _ _ | exact Kd.S_nil _ _ _ _ _, bbw0 HB⟩

end Go.Proofs.YtnblfcibgokccaaGreatDoor.PC
