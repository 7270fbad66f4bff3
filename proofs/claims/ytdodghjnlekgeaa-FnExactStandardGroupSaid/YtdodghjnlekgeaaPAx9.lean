/- Walks written by program: each Go function that the law reaches comes to the plain function beside it. -/
import Derived.Test.YtdodghjnlekgeaaPAx0
namespace Go.Proofs.Ytdodghjnlekgeaa.PA
open Go.RowKit Go.Proofs.YtdodghjnlekgeaaW.PrintWords Go.Proofs.YtdodghjnlekgeaaW.PrintLast Go.Proofs.YtdodghjnlekgeaaW.PrintMore
attribute [local go_sem] max2_int min2_int max_two min_two max_three min_three max_four min_four   -- for this text's walks alone
set_option linter.unusedVariables false
set_option linter.unusedSimpArgs false

/-! ### impl_within: function 14 -/
def impl_within.f (a0 : Int) (a1 : Int) (a2 : Int) : Option (Bool) := if a0 ≥ a1 then (some (decide (a0 ≤ a2))) else (some false)
set_option maxHeartbeats 8000000 in
set_option maxRecDepth 100000 in
theorem impl_within.calls (a0 : Int) (a1 : Int) (a2 : Int) (r : Bool) (w : World) (h : impl_within.f a0 a1 a2 = some r) :
  Calls Try.prog 14 #[.int .i64 a0, .int .i64 a1, .int .i64 a2] w fun e w' => e = .returned (.bool r) ∧ Drawn0 w w' := by
 have H : (if a0 ≥ a1 then (some (decide (a0 ≤ a2))) else (some false)) = some r := h
 clear h
 by_cases c4 : a0 ≥ a1
 ·rw [if_pos c4] at H
  have c4b0 : decide (a1 ≤ a0) = true := decide_eq_true c4
  clear c4
  obtain rfl := Option.some.inj H
  go_enter Try.func14, Try.ntmps14
  go_wp2
  go_ret
  exact ⟨by first | rfl | (simp; done) | (simp [*]; done), by repeat (first | exact Drawn0.refl _ | apply Drawn0.step)⟩
 ·rw [if_neg c4] at H
  have c4b0 : decide (a1 ≤ a0) = false := decide_eq_false c4
  clear c4
  obtain rfl := Option.some.inj H
  go_enter Try.func14, Try.ntmps14
  go_wp2
  go_ret
  exact ⟨by first | rfl | (simp; done) | (simp [*]; done), by repeat (first | exact Drawn0.refl _ | apply Drawn0.step)⟩
/-! ### impl_unit: function 22 -/
def impl_unit.f  : Option (Int × Int × Int × Int) := some (1, 0, 0, 1)
set_option maxHeartbeats 8000000 in
set_option maxRecDepth 100000 in
theorem impl_unit.calls  (r1 : Int) (r2 : Int) (r3 : Int) (r4 : Int) (w : World) (h : impl_unit.f  = some (r1, r2, r3, r4)) :
  Calls Try.prog 22 #[] w fun e w' => e = .returned (.agg #[.int .i64 r1, .int .i64 r2, .int .i64 r3, .int .i64 r4]) ∧ Below w.heap.size w w' := by
 have hu37 := Try.underlying37
 have HB := asd (Below.refl w.heap.size w)
 have H : (some (1, 0, 0, 1)) = some (r1, r2, r3, r4) := h
 clear h
 simp only [Option.some.injEq, Prod.mk.injEq] at H
 obtain ⟨rfl, rfl, rfl, rfl⟩ := H
 go_enter Try.func22, Try.ntmps22
 go_wp2_with (first | ((with_reducible refine gd 0 rfl ?_); refine bx #[.int .i64 0, .int .i64 0, .int .i64 0, .int .i64 0] 37 ?_; intro gb330 hg w1 BK330 hb; have GE330 := ngw0 hg HB; replace HB := bS0 HB hb; clear hb hg; obtain ⟨hcz2_0, hcz2_1, hcz2_2, hcz2_3, hfz2_0, hfz2_1, hfz2_2, hfz2_3⟩ := bz4 BK330))
 refine bodyPost_ret (results_cell_row rfl _ _ gb330 37 #[.int .i64 1, .int .i64 0, .int .i64 0, .int .i64 1] (0, 0) _ rfl (bq0 BK330) Try.underlying37 rfl (by kernel_rfl)) rfl ?_
 exact er (bbw1 HB GE330)
/-! ### impl_mod: function 45 -/
def impl_mod.f (a0 : Int) (a1 : Int) : Option (Int) := if a1 = 0 then (none) else (some (Int.tmod (wrap64 ((Int.tmod a0 a1) + a1)) a1))
set_option maxHeartbeats 8000000 in
set_option maxRecDepth 100000 in
theorem impl_mod.calls (a0 : Int) (a1 : Int) (r : Int) (w : World) (h : impl_mod.f a0 a1 = some r) :
  Calls Try.prog 45 #[.int .i64 a0, .int .i64 a1] w fun e w' => e = .returned (.int .i64 r) ∧ Drawn0 w w' := by
 have H : (if a1 = 0 then (none) else (some (Int.tmod (wrap64 ((Int.tmod a0 a1) + a1)) a1))) = some r := h
 clear h
 by_cases c3 : a1 = 0
 ·rw [if_pos c3] at H
  exact absurd H (by simp)
 ·rw [if_neg c3] at H
  have c3b0 : (a1 == 0) = false := beq_eq_false_iff_ne.mpr c3
  have c3b1 : (a1 != 0) = true := bne_iff_ne.mpr c3
  obtain rfl := Option.some.inj H
  go_enter Try.func45, Try.ntmps45
  go_wp2
  go_ret
  exact ⟨by first | rfl | (simp; done) | (simp [*]; done), by repeat (first | exact Drawn0.refl _ | apply Drawn0.step)⟩
/-! ### impl_Lattice_reduce: function 35 -/
def impl_Lattice_reduce.f (a0_0 : Int) (a0_1 : Int) (a0_2 : Int) (a1_0 : Int) (a1_1 : Int) : Option (Int × Int) := (impl_mod.f a1_1 a0_2).bind fun t334 => (if a0_2 = 0 then (none) else ((impl_mod.f (wrap64 (a1_0 - (wrap64 ((wrap64 (Int.tdiv (wrap64 (a1_1 - t334)) a0_2)) * a0_1)))) a0_0).bind fun t335 => (some (t335, t334))))
def impl_Lattice_reduce.T2 : Bool × List (List Nat × List Nat) := (true, [([], []), ([0], [0]), ([], []), ([2], [2]), ([], []), ([3, 4], [3, 4]), ([], []), ([6], [6]), ([5, 7], [5, 7]), ([], []), ([9], [9]), ([8, 10], [8, 10]), ([1, 11], [1, 11]), ([], []), ([13], [13]), ([12, 14], [12, 14]), ([], []), ([15, 16], [15, 16]), ([17, 15, 0, 1, 2, 3, 4, 5, 6, 7, 8, 9, 10, 11, 12, 13, 14, 15, 16, 17], [17])])
def impl_Lattice_reduce.B2 : List Nat := [0, 1, 0, 4, 0, 28, 0, 64, 252, 0, 512, 2044, 4095, 0, 8192, 32767, 0, 131071, 262143]
theorem impl_Lattice_reduce.tab2 : rtab .any (opsOf Try.f35 2) = impl_Lattice_reduce.T2 := by kernel_rfl
theorem impl_Lattice_reduce.bits2 : waitsOk impl_Lattice_reduce.T2.2 impl_Lattice_reduce.B2 = true := by kernel_rfl
set_option maxHeartbeats 8000000 in
set_option maxRecDepth 100000 in
theorem impl_Lattice_reduce.calls (a0_0 : Int) (a0_1 : Int) (a0_2 : Int) (a1_0 : Int) (a1_1 : Int) (r1 : Int) (r2 : Int) (w : World) (h : impl_Lattice_reduce.f a0_0 a0_1 a0_2 a1_0 a1_1 = some (r1, r2)) :
  Calls Try.prog 35 #[.agg #[.int .i64 a0_0, .int .i64 a0_1, .int .i64 a0_2], .agg #[.int .i64 a1_0, .int .i64 a1_1]] w fun e w' => e = .returned (.agg #[.int .i64 r1, .int .i64 r2]) ∧ Below w.heap.size w w' := by
 have hu23 := Try.underlying23
 have hu39 := Try.underlying39
 have HB := asd (Below.refl w.heap.size w)
 have H : ((impl_mod.f a1_1 a0_2).bind fun t334 => (if a0_2 = 0 then (none) else ((impl_mod.f (wrap64 (a1_0 - (wrap64 ((wrap64 (Int.tdiv (wrap64 (a1_1 - t334)) a0_2)) * a0_1)))) a0_0).bind fun t335 => (some (t335, t334))))) = some (r1, r2) := h
 clear h
 obtain ⟨t334, A3, H⟩ := ob H
 try dsimp only at H
 by_cases c4 : a0_2 = 0
 ·rw [if_pos c4] at H
  exact absurd H (by simp)
 ·rw [if_neg c4] at H
  have c4b0 : (a0_2 == 0) = false := beq_eq_false_iff_ne.mpr c4
  have c4b1 : (a0_2 != 0) = true := bne_iff_ne.mpr c4
  obtain ⟨t335, A5, H⟩ := ob H
  try dsimp only at H
  simp only [Option.some.injEq, Prod.mk.injEq] at H
  obtain ⟨rfl, rfl⟩ := H
  go_enter Try.func35, Try.ntmps35
  try go_wp2_with (first | ((with_reducible refine gd 2 rfl ?_); refine bx #[.int .i64 a0_0, .int .i64 a0_1, .int .i64 a0_2] 23 ?_; intro gb331 hg w6 BK331 hb; have GE331 := ngw0 hg HB; replace HB := bS0 HB hb; clear hb hg) | ((with_reducible refine gd 3 rfl ?_); refine bx #[.int .i64 a1_0, .int .i64 a1_1] 39 ?_; intro gb332 hg w7 BK332 hb; have GE332 := ngw1 hg HB GE331; replace HB := bS1 HB GE331 hb; have NB331_332 := nlt hg BK331; have NB332_331 := nsy (nlt hg BK331); replace BK331 := bB BK331 hb; clear hb hg) | ((with_reducible refine gd 4 rfl ?_); refine bx #[.int .i64 0, .int .i64 0] 39 ?_; intro gb333 hg w8 BK333 hb; have GE333 := ngw2 hg HB GE331 GE332; replace HB := bS2 HB GE331 GE332 hb; have NB331_333 := nlt hg BK331; have NB333_331 := nsy (nlt hg BK331); replace BK331 := bB BK331 hb; have NB332_333 := nlt hg BK332; have NB333_332 := nsy (nlt hg BK332); replace BK332 := bB BK332 hb; clear hb hg; have hnb9 := NB332_331.out; have hnc9 := NB331_332.out; have hnb10 := NB332_333.out; have hnc10 := NB333_332.out; obtain ⟨hcz11_0, hcz11_1, hfz11_0, hfz11_1⟩ := bz2 BK332; have hnb12 := NB331_333.out; have hnc12 := NB333_331.out; obtain ⟨hcz13_0, hcz13_1, hcz13_2, hfz13_0, hfz13_1, hfz13_2⟩ := bz3 BK331) | ((with_reducible refine gate_callee (f := 45) rfl ?_); refine gl 10 Try.func45 #[.int .i64 a1_1, .int .i64 a0_2] ?_; (with_reducible refine (impl_mod.calls _ _ _ _ A3.out).mono ?_); rintro e w' ⟨rfl, ⟨nd, rfl⟩⟩; refine ⟨_, rfl, ?_⟩; (try (rw [drewN_self w8]; generalize hq_ : World.drewN w8 _ = w8; have n0_ : Aside0 (w8.heap[gb331]? = some (.cells #[.int .i64 a0_0, .int .i64 a0_1, .int .i64 a0_2] 23 (0, 0))) := ⟨by rw [← hq_]; exact (bkp BK331)⟩; have n1_ : Aside0 (w8.heap[gb332]? = some (.cells #[.int .i64 a1_0, .int .i64 a1_1] 39 (0, 0))) := ⟨by rw [← hq_]; exact (bkp BK332)⟩; have n2_ : Aside0 (w8.heap[gb333]? = some (.cells #[.int .i64 0, .int .i64 0] 39 (0, 0))) := ⟨by rw [← hq_]; exact (bkp BK333)⟩; have n3_ : Aside0 (Below w.heap.size w w8) := ⟨by rw [← hq_]; exact (bbw3 HB GE331 GE332 GE333)⟩; clear BK331 BK332 BK333 HB hq_; have BK331 := n0_; have BK332 := n1_; have BK333 := n2_; have HB := n3_; clear n0_ n1_ n2_ n3_))))
  replace BK331 := asd (blk_drew BK331.out)
  replace BK332 := asd (blk_drew BK332.out)
  replace BK333 := asd (blk_drew BK333.out)
  replace HB := asd (below_drew1 HB.out)
  refine sh 19 (cb2 BK332 (eb3 BK331)) (fun hHeld => ?_); refine with_tabW impl_Lattice_reduce.tab2 impl_Lattice_reduce.bits2 (fun HT_ HW_ => ?_)
  generalize w8.drew = w14 at BK331 BK332 BK333 HB hHeld ⊢
  refine pu 0 (some 11) (bT 19 1) HT_ ?_
  refine pu 2 (some 13) (bs 19 5) HT_ ?_
  refine pu 4 (some 15) (bs 19 21) HT_ ?_
  refine pu 6 (some 17) (bs 19 85) HT_ ?_
  refine pu 9 (some 20) (bs 19 597) HT_ ?_
  refine pu 13 (some 24) (bs 19 8789) HT_ ?_
  refine pu 16 (some 27) (bs 19 74325) HT_ ?_
  refine ta 1 (some 12) (bs 19 74327) HT_ HW_ hHeld ?_
  refine ta 3 (some 14) (bs 19 74335) HT_ HW_ hHeld ?_
  refine pu 5 (some 16) (bs 19 74367) HT_ ?_
  refine ta 7 (some 18) (bs 19 74495) HT_ HW_ hHeld ?_
  refine pu 8 (some 19) (bs 19 74751) HT_ ?_
  refine ta 10 (some 21) (bs 19 75775) HT_ HW_ hHeld ?_
  refine pu 11 (some 22) (bs 19 77823) HT_ ?_
  refine pu 12 (some 23) (bs 19 81919) HT_ ?_
  refine ta 14 (some 25) (bs 19 98303) HT_ HW_ hHeld ?_
  refine ro 15 (some 26) (bT 19 17) HT_ (fun K hK => ?_)
  refine gs Try.func45 #[.int .i64 (wrap64 (a1_0 - (wrap64 ((wrap64 (Int.tdiv (wrap64 (a1_1 - t334)) a0_2)) * a0_1)))), .int .i64 a0_0] ?_
  with_reducible refine (impl_mod.calls _ _ _ _ A5.out).mono ?_
  rintro e w' ⟨rfl, ⟨nd, rfl⟩⟩
  refine ⟨_, rfl, ?_⟩
  refine hK.out _ _ (cb2 BK332 (eb3 BK331)).out (fun hHeld => ?_)
  clear hK K
  refine norm_ (a' := ?_) ?_ ?_
  rotate_left
  ·show Act.put _ (some 26) _ = _
   simp only [Act.put, sA, sB, sC, i64_w, i32_w]
   rfl
  refine pu 17 (some 28) (bT 19 18) HT_ ?_
  refine ro 18 (none) (bT 19 19) HT_ (fun K hK => ?_)
  have hs15 : w14.cell? ⟨gb333, 0, none⟩ = some (.int .i64 0) := bcl BK333 0
  have hfs15 := blk_frozen BK333.out 0
  have hns15_0 := NB331_333.out
  have hns15_1 := NB332_333.out
  have hms15_0 := NB333_331.out
  have hms15_1 := NB333_332.out
  have hs16 : w14.cell? ⟨gb333, 1, none⟩ = some (.int .i64 0) := bcl BK333 1
  have hfs16 := blk_frozen BK333.out 1
  have hns16_0 := NB331_333.out
  have hns16_1 := NB332_333.out
  have hms16_0 := NB333_331.out
  have hms16_1 := NB333_332.out
  refine skip_ (w1 := ?_) (by rfl) rfl ?_ ?_
  rotate_left
  ·go_simp
   rfl
  refine hK.out _ _ ⟨(cf2 NB332_333 (hHeld.1)), (cf2 NB332_333 (hHeld.2.1)), (cf2 NB331_333 (hHeld.2.2.1)), (cf2 NB331_333 (hHeld.2.2.2.1)), (cf2 NB331_333 (hHeld.2.2.2.2))⟩ (fun hHeld => ?_)
  clear hK K
  refine done_ (done_of HT_.out (by kernel_rfl)) ?_
  try go_wp2
  refine bodyPost_ret (results_cell_row rfl _ _ gb333 39 #[.int .i64 t335, .int .i64 t334] (0, 0) _ rfl (bq0 BK333) Try.underlying39 rfl (by kernel_rfl)) rfl ?_
  exact er (bbw3 HB GE331 GE332 GE333)
/-! ### impl_Lattice_reduceMotion: function 23 -/
def impl_Lattice_reduceMotion.f (a0_0 : Int) (a0_1 : Int) (a0_2 : Int) (a1_0 : Int) (a1_1 : Int) (a1_2 : Int) (a1_3 : Int) (a1_4 : Int) (a1_5 : Int) : Option (Int × Int × Int × Int × Int × Int) := (impl_Lattice_reduce.f a0_0 a0_1 a0_2 a1_4 a1_5).bind fun bt339 => (some (a1_0, a1_1, a1_2, a1_3, bt339.1, bt339.2))
def impl_Lattice_reduceMotion.T1 : Bool × List (List Nat × List Nat) := (true, [([], []), ([0], [0]), ([], []), ([], []), ([3], [3]), ([2, 4], [2, 4]), ([1, 5], [1, 5]), ([6, 5, 0, 1, 2, 3, 4, 5, 6], [6])])
def impl_Lattice_reduceMotion.B1 : List Nat := [0, 1, 0, 0, 8, 28, 63, 127]
theorem impl_Lattice_reduceMotion.tab1 : rtab .any (opsOf Try.f23 1) = impl_Lattice_reduceMotion.T1 := by kernel_rfl
theorem impl_Lattice_reduceMotion.bits1 : waitsOk impl_Lattice_reduceMotion.T1.2 impl_Lattice_reduceMotion.B1 = true := by kernel_rfl
set_option maxHeartbeats 8000000 in
set_option maxRecDepth 100000 in
theorem impl_Lattice_reduceMotion.calls (a0_0 : Int) (a0_1 : Int) (a0_2 : Int) (a1_0 : Int) (a1_1 : Int) (a1_2 : Int) (a1_3 : Int) (a1_4 : Int) (a1_5 : Int) (r1 : Int) (r2 : Int) (r3 : Int) (r4 : Int) (r5 : Int) (r6 : Int) (w : World) (h : impl_Lattice_reduceMotion.f a0_0 a0_1 a0_2 a1_0 a1_1 a1_2 a1_3 a1_4 a1_5 = some (r1, r2, r3, r4, r5, r6)) :
  Calls Try.prog 23 #[.agg #[.int .i64 a0_0, .int .i64 a0_1, .int .i64 a0_2], .agg #[.int .i64 a1_0, .int .i64 a1_1, .int .i64 a1_2, .int .i64 a1_3, .int .i64 a1_4, .int .i64 a1_5]] w fun e w' => e = .returned (.agg #[.int .i64 r1, .int .i64 r2, .int .i64 r3, .int .i64 r4, .int .i64 r5, .int .i64 r6]) ∧ Below w.heap.size w w' := by
 have hu23 := Try.underlying23
 have hu41 := Try.underlying41
 have hu37 := Try.underlying37
 have hu39 := Try.underlying39
 have HB := asd (Below.refl w.heap.size w)
 have H : ((impl_Lattice_reduce.f a0_0 a0_1 a0_2 a1_4 a1_5).bind fun bt339 => (some (a1_0, a1_1, a1_2, a1_3, bt339.1, bt339.2))) = some (r1, r2, r3, r4, r5, r6) := h
 clear h
 obtain ⟨⟨t339, t340⟩, A3, H⟩ := ob H
 try dsimp only at H
 simp only [Option.some.injEq, Prod.mk.injEq] at H
 obtain ⟨rfl, rfl, rfl, rfl, rfl, rfl⟩ := H
 go_enter Try.func23, Try.ntmps23
 try go_wp2_with (first | ((with_reducible refine gd 2 rfl ?_); refine bx #[.int .i64 a0_0, .int .i64 a0_1, .int .i64 a0_2] 23 ?_; intro gb336 hg w4 BK336 hb; have GE336 := ngw0 hg HB; replace HB := bS0 HB hb; clear hb hg) | ((with_reducible refine gd 3 rfl ?_); refine bx #[.int .i64 a1_0, .int .i64 a1_1, .int .i64 a1_2, .int .i64 a1_3, .int .i64 a1_4, .int .i64 a1_5] 41 ?_; intro gb337 hg w5 BK337 hb; have GE337 := ngw1 hg HB GE336; replace HB := bS1 HB GE336 hb; have NB336_337 := nlt hg BK336; have NB337_336 := nsy (nlt hg BK336); replace BK336 := bB BK336 hb; clear hb hg) | ((with_reducible refine gd 4 rfl ?_); refine bx #[.int .i64 0, .int .i64 0, .int .i64 0, .int .i64 0, .int .i64 0, .int .i64 0] 41 ?_; intro gb338 hg w6 BK338 hb; have GE338 := ngw2 hg HB GE336 GE337; replace HB := bS2 HB GE336 GE337 hb; have NB336_338 := nlt hg BK336; have NB338_336 := nsy (nlt hg BK336); replace BK336 := bB BK336 hb; have NB337_338 := nlt hg BK337; have NB338_337 := nsy (nlt hg BK337); replace BK337 := bB BK337 hb; clear hb hg))
 replace BK336 := asd (blk_drew BK336.out)
 replace BK337 := asd (blk_drew BK337.out)
 replace BK338 := asd (blk_drew BK338.out)
 replace HB := asd (below_drew1 HB.out)
 refine sh 8 (cb6 BK337 (eb3 BK336)) (fun hHeld => ?_); refine with_tabW impl_Lattice_reduceMotion.tab1 impl_Lattice_reduceMotion.bits1 (fun HT_ HW_ => ?_)
 generalize w6.drew = w7 at BK336 BK337 BK338 HB hHeld ⊢
 refine pu 0 (some 5) (bT 8 1) HT_ ?_
 refine pu 3 (some 8) (bs 8 9) HT_ ?_
 refine ta 1 (some 6) (bs 8 11) HT_ HW_ hHeld ?_
 refine ta 2 (some 7) (bT 8 4) HT_ HW_ hHeld ?_
 refine ta 4 (some 9) (bT 8 5) HT_ HW_ hHeld ?_
 refine ro 5 (some 10) (bT 8 6) HT_ (fun K hK => ?_)
 refine gs Try.func35 #[.agg #[.int .i64 a0_0, .int .i64 a0_1, .int .i64 a0_2], .agg #[.int .i64 a1_4, .int .i64 a1_5]] ?_
 with_reducible refine (impl_Lattice_reduce.calls _ _ _ _ _ _ _ _ A3.out).mono ?_
 rintro e w8 ⟨rfl, hb⟩
 refine ⟨_, rfl, ?_⟩
 replace BK336 := bB BK336 hb
 replace BK337 := bB BK337 hb
 replace BK338 := bB BK338 hb
 replace HB := bS3 HB GE336 GE337 GE338 hb
 (try clear hb)
 (try clear hb2)
 (try clear hk)
 (try clear hi)
 refine hK.out _ _ (cb6 BK337 (eb3 BK336)).out (fun hHeld => ?_)
 clear hK K
 refine norm_ (a' := ?_) ?_ ?_
 rotate_left
 ·show Act.put _ (some 10) _ = _
  simp only [Act.put, sA, sB, sC, i64_w, i32_w]
  rfl
 refine pu 6 (some 11) (bT 8 7) HT_ ?_
 refine ro 7 (none) (bT 8 8) HT_ (fun K hK => ?_)
 have hs9 : w8.cell? ⟨gb338, 0, none⟩ = some (.int .i64 0) := bcl BK338 0
 have hfs9 := blk_frozen BK338.out 0
 have hns9_0 := NB336_338.out
 have hns9_1 := NB337_338.out
 have hms9_0 := NB338_336.out
 have hms9_1 := NB338_337.out
 have hs10 : w8.cell? ⟨gb338, 1, none⟩ = some (.int .i64 0) := bcl BK338 1
 have hfs10 := blk_frozen BK338.out 1
 have hns10_0 := NB336_338.out
 have hns10_1 := NB337_338.out
 have hms10_0 := NB338_336.out
 have hms10_1 := NB338_337.out
 have hs11 : w8.cell? ⟨gb338, 2, none⟩ = some (.int .i64 0) := bcl BK338 2
 have hfs11 := blk_frozen BK338.out 2
 have hns11_0 := NB336_338.out
 have hns11_1 := NB337_338.out
 have hms11_0 := NB338_336.out
 have hms11_1 := NB338_337.out
 have hs12 : w8.cell? ⟨gb338, 3, none⟩ = some (.int .i64 0) := bcl BK338 3
 have hfs12 := blk_frozen BK338.out 3
 have hns12_0 := NB336_338.out
 have hns12_1 := NB337_338.out
 have hms12_0 := NB338_336.out
 have hms12_1 := NB338_337.out
 have hs13 : w8.cell? ⟨gb338, 4, none⟩ = some (.int .i64 0) := bcl BK338 4
 have hfs13 := blk_frozen BK338.out 4
 have hns13_0 := NB336_338.out
 have hns13_1 := NB337_338.out
 have hms13_0 := NB338_336.out
 have hms13_1 := NB338_337.out
 have hs14 : w8.cell? ⟨gb338, 5, none⟩ = some (.int .i64 0) := bcl BK338 5
 have hfs14 := blk_frozen BK338.out 5
 have hns14_0 := NB336_338.out
 have hns14_1 := NB337_338.out
 have hms14_0 := NB338_336.out
 have hms14_1 := NB338_337.out
 refine skip_ (w1 := ?_) (by rfl) rfl ?_ ?_
 rotate_left
 ·go_simp
  rfl
 refine hK.out _ _ ⟨(cf6 NB337_338 (hHeld.1)), (cf6 NB337_338 (hHeld.2.1)), (cf6 NB337_338 (hHeld.2.2.1)), (cf6 NB337_338 (hHeld.2.2.2.1)), (cf6 NB337_338 (hHeld.2.2.2.2.1)), (cf6 NB337_338 (hHeld.2.2.2.2.2.1)), (cf6 NB336_338 (hHeld.2.2.2.2.2.2.1)), (cf6 NB336_338 (hHeld.2.2.2.2.2.2.2.1)), (cf6 NB336_338 (hHeld.2.2.2.2.2.2.2.2))⟩ (fun hHeld => ?_)
 clear hK K
 refine done_ (done_of HT_.out (by kernel_rfl)) ?_
 try go_wp2
 refine bodyPost_ret (results_cell_row rfl _ _ gb338 41 #[.int .i64 a1_0, .int .i64 a1_1, .int .i64 a1_2, .int .i64 a1_3, .int .i64 t339, .int .i64 t340] (0, 0) _ rfl (bq0 BK338) Try.underlying41 rfl (by kernel_rfl)) rfl ?_
 exact er (bbw3 HB GE336 GE337 GE338)
/-! ### impl_Mat_times: function 36 -/
def impl_Mat_times.f (a0_0 : Int) (a0_1 : Int) (a0_2 : Int) (a0_3 : Int) (a1_0 : Int) (a1_1 : Int) (a1_2 : Int) (a1_3 : Int) : Option (Int × Int × Int × Int) := some (wrap64 ((wrap64 (a0_0 * a1_0)) + (wrap64 (a0_1 * a1_2))), wrap64 ((wrap64 (a0_0 * a1_1)) + (wrap64 (a0_1 * a1_3))), wrap64 ((wrap64 (a0_2 * a1_0)) + (wrap64 (a0_3 * a1_2))), wrap64 ((wrap64 (a0_2 * a1_1)) + (wrap64 (a0_3 * a1_3))))
set_option maxHeartbeats 8000000 in
set_option maxRecDepth 100000 in
theorem impl_Mat_times.calls (a0_0 : Int) (a0_1 : Int) (a0_2 : Int) (a0_3 : Int) (a1_0 : Int) (a1_1 : Int) (a1_2 : Int) (a1_3 : Int) (r1 : Int) (r2 : Int) (r3 : Int) (r4 : Int) (w : World) (h : impl_Mat_times.f a0_0 a0_1 a0_2 a0_3 a1_0 a1_1 a1_2 a1_3 = some (r1, r2, r3, r4)) :
  Calls Try.prog 36 #[.agg #[.int .i64 a0_0, .int .i64 a0_1, .int .i64 a0_2, .int .i64 a0_3], .agg #[.int .i64 a1_0, .int .i64 a1_1, .int .i64 a1_2, .int .i64 a1_3]] w fun e w' => e = .returned (.agg #[.int .i64 r1, .int .i64 r2, .int .i64 r3, .int .i64 r4]) ∧ Below w.heap.size w w' := by
 have hu37 := Try.underlying37
 have HB := asd (Below.refl w.heap.size w)
 have H : (some (wrap64 ((wrap64 (a0_0 * a1_0)) + (wrap64 (a0_1 * a1_2))), wrap64 ((wrap64 (a0_0 * a1_1)) + (wrap64 (a0_1 * a1_3))), wrap64 ((wrap64 (a0_2 * a1_0)) + (wrap64 (a0_3 * a1_2))), wrap64 ((wrap64 (a0_2 * a1_1)) + (wrap64 (a0_3 * a1_3))))) = some (r1, r2, r3, r4) := h
 clear h
 simp only [Option.some.injEq, Prod.mk.injEq] at H
 obtain ⟨rfl, rfl, rfl, rfl⟩ := H
 go_enter Try.func36, Try.ntmps36
 go_wp2_with (first | ((with_reducible refine gd 2 rfl ?_); refine bx #[.int .i64 a0_0, .int .i64 a0_1, .int .i64 a0_2, .int .i64 a0_3] 37 ?_; intro gb341 hg w3 BK341 hb; have GE341 := ngw0 hg HB; replace HB := bS0 HB hb; clear hb hg) | ((with_reducible refine gd 3 rfl ?_); refine bx #[.int .i64 a1_0, .int .i64 a1_1, .int .i64 a1_2, .int .i64 a1_3] 37 ?_; intro gb342 hg w4 BK342 hb; have GE342 := ngw1 hg HB GE341; replace HB := bS1 HB GE341 hb; have NB341_342 := nlt hg BK341; have NB342_341 := nsy (nlt hg BK341); replace BK341 := bB BK341 hb; clear hb hg) | ((with_reducible refine gd 4 rfl ?_); refine bx #[.int .i64 0, .int .i64 0, .int .i64 0, .int .i64 0] 37 ?_; intro gb343 hg w5 BK343 hb; have GE343 := ngw2 hg HB GE341 GE342; replace HB := bS2 HB GE341 GE342 hb; have NB341_343 := nlt hg BK341; have NB343_341 := nsy (nlt hg BK341); replace BK341 := bB BK341 hb; have NB342_343 := nlt hg BK342; have NB343_342 := nsy (nlt hg BK342); replace BK342 := bB BK342 hb; clear hb hg; have hnb6 := NB341_342.out; have hnc6 := NB342_341.out; have hnb7 := NB341_343.out; have hnc7 := NB343_341.out; obtain ⟨hcz8_0, hcz8_1, hcz8_2, hcz8_3, hfz8_0, hfz8_1, hfz8_2, hfz8_3⟩ := bz4 BK341; have hnb9 := NB342_343.out; have hnc9 := NB343_342.out; obtain ⟨hcz10_0, hcz10_1, hcz10_2, hcz10_3, hfz10_0, hfz10_1, hfz10_2, hfz10_3⟩ := bz4 BK342; obtain ⟨hcz11_0, hcz11_1, hcz11_2, hcz11_3, hfz11_0, hfz11_1, hfz11_2, hfz11_3⟩ := bz4 BK343))
 refine bodyPost_ret (results_cell_row rfl _ _ gb343 37 #[.int .i64 (wrap64 ((wrap64 (a0_0 * a1_0)) + (wrap64 (a0_1 * a1_2)))), .int .i64 (wrap64 ((wrap64 (a0_0 * a1_1)) + (wrap64 (a0_1 * a1_3)))), .int .i64 (wrap64 ((wrap64 (a0_2 * a1_0)) + (wrap64 (a0_3 * a1_2)))), .int .i64 (wrap64 ((wrap64 (a0_2 * a1_1)) + (wrap64 (a0_3 * a1_3))))] (0, 0) _ rfl (bq0 BK343) Try.underlying37 rfl (by kernel_rfl)) rfl ?_
 exact er (bbw3 HB GE341 GE342 GE343)
/-! ### impl_Mat_apply: function 37 -/
def impl_Mat_apply.f (a0_0 : Int) (a0_1 : Int) (a0_2 : Int) (a0_3 : Int) (a1_0 : Int) (a1_1 : Int) : Option (Int × Int) := some (wrap64 ((wrap64 (a0_0 * a1_0)) + (wrap64 (a0_1 * a1_1))), wrap64 ((wrap64 (a0_2 * a1_0)) + (wrap64 (a0_3 * a1_1))))
set_option maxHeartbeats 8000000 in
set_option maxRecDepth 100000 in
theorem impl_Mat_apply.calls (a0_0 : Int) (a0_1 : Int) (a0_2 : Int) (a0_3 : Int) (a1_0 : Int) (a1_1 : Int) (r1 : Int) (r2 : Int) (w : World) (h : impl_Mat_apply.f a0_0 a0_1 a0_2 a0_3 a1_0 a1_1 = some (r1, r2)) :
  Calls Try.prog 37 #[.agg #[.int .i64 a0_0, .int .i64 a0_1, .int .i64 a0_2, .int .i64 a0_3], .agg #[.int .i64 a1_0, .int .i64 a1_1]] w fun e w' => e = .returned (.agg #[.int .i64 r1, .int .i64 r2]) ∧ Below w.heap.size w w' := by
 have hu37 := Try.underlying37
 have hu39 := Try.underlying39
 have HB := asd (Below.refl w.heap.size w)
 have H : (some (wrap64 ((wrap64 (a0_0 * a1_0)) + (wrap64 (a0_1 * a1_1))), wrap64 ((wrap64 (a0_2 * a1_0)) + (wrap64 (a0_3 * a1_1))))) = some (r1, r2) := h
 clear h
 simp only [Option.some.injEq, Prod.mk.injEq] at H
 obtain ⟨rfl, rfl⟩ := H
 go_enter Try.func37, Try.ntmps37
 go_wp2_with (first | ((with_reducible refine gd 2 rfl ?_); refine bx #[.int .i64 a0_0, .int .i64 a0_1, .int .i64 a0_2, .int .i64 a0_3] 37 ?_; intro gb344 hg w3 BK344 hb; have GE344 := ngw0 hg HB; replace HB := bS0 HB hb; clear hb hg) | ((with_reducible refine gd 3 rfl ?_); refine bx #[.int .i64 a1_0, .int .i64 a1_1] 39 ?_; intro gb345 hg w4 BK345 hb; have GE345 := ngw1 hg HB GE344; replace HB := bS1 HB GE344 hb; have NB344_345 := nlt hg BK344; have NB345_344 := nsy (nlt hg BK344); replace BK344 := bB BK344 hb; clear hb hg) | ((with_reducible refine gd 4 rfl ?_); refine bx #[.int .i64 0, .int .i64 0] 39 ?_; intro gb346 hg w5 BK346 hb; have GE346 := ngw2 hg HB GE344 GE345; replace HB := bS2 HB GE344 GE345 hb; have NB344_346 := nlt hg BK344; have NB346_344 := nsy (nlt hg BK344); replace BK344 := bB BK344 hb; have NB345_346 := nlt hg BK345; have NB346_345 := nsy (nlt hg BK345); replace BK345 := bB BK345 hb; clear hb hg; have hnb6 := NB344_345.out; have hnc6 := NB345_344.out; have hnb7 := NB344_346.out; have hnc7 := NB346_344.out; obtain ⟨hcz8_0, hcz8_1, hcz8_2, hcz8_3, hfz8_0, hfz8_1, hfz8_2, hfz8_3⟩ := bz4 BK344; have hnb9 := NB345_346.out; have hnc9 := NB346_345.out; obtain ⟨hcz10_0, hcz10_1, hfz10_0, hfz10_1⟩ := bz2 BK345; obtain ⟨hcz11_0, hcz11_1, hfz11_0, hfz11_1⟩ := bz2 BK346))
 refine bodyPost_ret (results_cell_row rfl _ _ gb346 39 #[.int .i64 (wrap64 ((wrap64 (a0_0 * a1_0)) + (wrap64 (a0_1 * a1_1)))), .int .i64 (wrap64 ((wrap64 (a0_2 * a1_0)) + (wrap64 (a0_3 * a1_1))))] (0, 0) _ rfl (bq0 BK346) Try.underlying39 rfl (by kernel_rfl)) rfl ?_
 exact er (bbw3 HB GE344 GE345 GE346)
/-! ### impl_Vec_add: function 38 -/
def impl_Vec_add.f (a0_0 : Int) (a0_1 : Int) (a1_0 : Int) (a1_1 : Int) : Option (Int × Int) := some (wrap64 (a0_0 + a1_0), wrap64 (a0_1 + a1_1))
set_option maxHeartbeats 8000000 in
set_option maxRecDepth 100000 in
theorem impl_Vec_add.calls (a0_0 : Int) (a0_1 : Int) (a1_0 : Int) (a1_1 : Int) (r1 : Int) (r2 : Int) (w : World) (h : impl_Vec_add.f a0_0 a0_1 a1_0 a1_1 = some (r1, r2)) :
  Calls Try.prog 38 #[.agg #[.int .i64 a0_0, .int .i64 a0_1], .agg #[.int .i64 a1_0, .int .i64 a1_1]] w fun e w' => e = .returned (.agg #[.int .i64 r1, .int .i64 r2]) ∧ Below w.heap.size w w' := by
 have hu39 := Try.underlying39
 have HB := asd (Below.refl w.heap.size w)
 have H : (some (wrap64 (a0_0 + a1_0), wrap64 (a0_1 + a1_1))) = some (r1, r2) := h
 clear h
 simp only [Option.some.injEq, Prod.mk.injEq] at H
 obtain ⟨rfl, rfl⟩ := H
 go_enter Try.func38, Try.ntmps38
 go_wp2_with (first | ((with_reducible refine gd 2 rfl ?_); refine bx #[.int .i64 a0_0, .int .i64 a0_1] 39 ?_; intro gb347 hg w3 BK347 hb; have GE347 := ngw0 hg HB; replace HB := bS0 HB hb; clear hb hg) | ((with_reducible refine gd 3 rfl ?_); refine bx #[.int .i64 a1_0, .int .i64 a1_1] 39 ?_; intro gb348 hg w4 BK348 hb; have GE348 := ngw1 hg HB GE347; replace HB := bS1 HB GE347 hb; have NB347_348 := nlt hg BK347; have NB348_347 := nsy (nlt hg BK347); replace BK347 := bB BK347 hb; clear hb hg) | ((with_reducible refine gd 4 rfl ?_); refine bx #[.int .i64 0, .int .i64 0] 39 ?_; intro gb349 hg w5 BK349 hb; have GE349 := ngw2 hg HB GE347 GE348; replace HB := bS2 HB GE347 GE348 hb; have NB347_349 := nlt hg BK347; have NB349_347 := nsy (nlt hg BK347); replace BK347 := bB BK347 hb; have NB348_349 := nlt hg BK348; have NB349_348 := nsy (nlt hg BK348); replace BK348 := bB BK348 hb; clear hb hg; have hnb6 := NB347_348.out; have hnc6 := NB348_347.out; have hnb7 := NB347_349.out; have hnc7 := NB349_347.out; obtain ⟨hcz8_0, hcz8_1, hfz8_0, hfz8_1⟩ := bz2 BK347; have hnb9 := NB348_349.out; have hnc9 := NB349_348.out; obtain ⟨hcz10_0, hcz10_1, hfz10_0, hfz10_1⟩ := bz2 BK348; obtain ⟨hcz11_0, hcz11_1, hfz11_0, hfz11_1⟩ := bz2 BK349))
 refine bodyPost_ret (results_cell_row rfl _ _ gb349 39 #[.int .i64 (wrap64 (a0_0 + a1_0)), .int .i64 (wrap64 (a0_1 + a1_1))] (0, 0) _ rfl (bq0 BK349) Try.underlying39 rfl (by kernel_rfl)) rfl ?_
 exact er (bbw3 HB GE347 GE348 GE349)
/-! ### impl_Motion_times: function 24 -/
def impl_Motion_times.f (a0_0 : Int) (a0_1 : Int) (a0_2 : Int) (a0_3 : Int) (a0_4 : Int) (a0_5 : Int) (a1_0 : Int) (a1_1 : Int) (a1_2 : Int) (a1_3 : Int) (a1_4 : Int) (a1_5 : Int) : Option (Int × Int × Int × Int × Int × Int) := (impl_Mat_times.f a0_0 a0_1 a0_2 a0_3 a1_0 a1_1 a1_2 a1_3).bind fun bt353 => ((impl_Mat_apply.f a0_0 a0_1 a0_2 a0_3 a1_4 a1_5).bind fun bt357 => ((impl_Vec_add.f bt357.1 bt357.2 a0_4 a0_5).bind fun bt359 => (some (bt353.1, bt353.2.1, bt353.2.2.1, bt353.2.2.2, bt359.1, bt359.2))))
def impl_Motion_times.T1 : Bool × List (List Nat × List Nat) := (true, [([], []), ([0], [0]), ([], []), ([2], [2]), ([1, 3], [1, 3]), ([], []), ([5], [5]), ([], []), ([7], [7]), ([6, 8, 4], [6, 8]), ([], []), ([10], [10]), ([9, 11, 9], [9, 11]), ([4, 12], [4, 12]), ([13, 12, 0, 1, 2, 3, 4, 5, 6, 7, 8, 9, 10, 11, 12, 13], [13])])
def impl_Motion_times.B1 : List Nat := [0, 1, 0, 4, 15, 0, 32, 0, 128, 511, 0, 1024, 4095, 8191, 16383]
theorem impl_Motion_times.tab1 : rtab .any (opsOf Try.f24 1) = impl_Motion_times.T1 := by kernel_rfl
theorem impl_Motion_times.bits1 : waitsOk impl_Motion_times.T1.2 impl_Motion_times.B1 = true := by kernel_rfl
set_option maxHeartbeats 8000000 in
set_option maxRecDepth 100000 in
theorem impl_Motion_times.calls (a0_0 : Int) (a0_1 : Int) (a0_2 : Int) (a0_3 : Int) (a0_4 : Int) (a0_5 : Int) (a1_0 : Int) (a1_1 : Int) (a1_2 : Int) (a1_3 : Int) (a1_4 : Int) (a1_5 : Int) (r1 : Int) (r2 : Int) (r3 : Int) (r4 : Int) (r5 : Int) (r6 : Int) (w : World) (h : impl_Motion_times.f a0_0 a0_1 a0_2 a0_3 a0_4 a0_5 a1_0 a1_1 a1_2 a1_3 a1_4 a1_5 = some (r1, r2, r3, r4, r5, r6)) :
  Calls Try.prog 24 #[.agg #[.int .i64 a0_0, .int .i64 a0_1, .int .i64 a0_2, .int .i64 a0_3, .int .i64 a0_4, .int .i64 a0_5], .agg #[.int .i64 a1_0, .int .i64 a1_1, .int .i64 a1_2, .int .i64 a1_3, .int .i64 a1_4, .int .i64 a1_5]] w fun e w' => e = .returned (.agg #[.int .i64 r1, .int .i64 r2, .int .i64 r3, .int .i64 r4, .int .i64 r5, .int .i64 r6]) ∧ Below w.heap.size w w' := by
 have hu41 := Try.underlying41
 have hu37 := Try.underlying37
 have hu39 := Try.underlying39
 have HB := asd (Below.refl w.heap.size w)
 have H : ((impl_Mat_times.f a0_0 a0_1 a0_2 a0_3 a1_0 a1_1 a1_2 a1_3).bind fun bt353 => ((impl_Mat_apply.f a0_0 a0_1 a0_2 a0_3 a1_4 a1_5).bind fun bt357 => ((impl_Vec_add.f bt357.1 bt357.2 a0_4 a0_5).bind fun bt359 => (some (bt353.1, bt353.2.1, bt353.2.2.1, bt353.2.2.2, bt359.1, bt359.2))))) = some (r1, r2, r3, r4, r5, r6) := h
 clear h
 obtain ⟨⟨t353, t354, t355, t356⟩, A3, H⟩ := ob H
 try dsimp only at H
 obtain ⟨⟨t357, t358⟩, A4, H⟩ := ob H
 try dsimp only at H
 obtain ⟨⟨t359, t360⟩, A5, H⟩ := ob H
 try dsimp only at H
 simp only [Option.some.injEq, Prod.mk.injEq] at H
 obtain ⟨rfl, rfl, rfl, rfl, rfl, rfl⟩ := H
 go_enter Try.func24, Try.ntmps24
 try go_wp2_with (first | ((with_reducible refine gd 2 rfl ?_); refine bx #[.int .i64 a0_0, .int .i64 a0_1, .int .i64 a0_2, .int .i64 a0_3, .int .i64 a0_4, .int .i64 a0_5] 41 ?_; intro gb350 hg w6 BK350 hb; have GE350 := ngw0 hg HB; replace HB := bS0 HB hb; clear hb hg) | ((with_reducible refine gd 3 rfl ?_); refine bx #[.int .i64 a1_0, .int .i64 a1_1, .int .i64 a1_2, .int .i64 a1_3, .int .i64 a1_4, .int .i64 a1_5] 41 ?_; intro gb351 hg w7 BK351 hb; have GE351 := ngw1 hg HB GE350; replace HB := bS1 HB GE350 hb; have NB350_351 := nlt hg BK350; have NB351_350 := nsy (nlt hg BK350); replace BK350 := bB BK350 hb; clear hb hg) | ((with_reducible refine gd 4 rfl ?_); refine bx #[.int .i64 0, .int .i64 0, .int .i64 0, .int .i64 0, .int .i64 0, .int .i64 0] 41 ?_; intro gb352 hg w8 BK352 hb; have GE352 := ngw2 hg HB GE350 GE351; replace HB := bS2 HB GE350 GE351 hb; have NB350_352 := nlt hg BK350; have NB352_350 := nsy (nlt hg BK350); replace BK350 := bB BK350 hb; have NB351_352 := nlt hg BK351; have NB352_351 := nsy (nlt hg BK351); replace BK351 := bB BK351 hb; clear hb hg))
 replace BK350 := asd (blk_drew BK350.out)
 replace BK351 := asd (blk_drew BK351.out)
 replace BK352 := asd (blk_drew BK352.out)
 replace HB := asd (below_drew1 HB.out)
 refine sh 15 (cb6 BK350 (eb6 BK351)) (fun hHeld => ?_); refine with_tabW impl_Motion_times.tab1 impl_Motion_times.bits1 (fun HT_ HW_ => ?_)
 generalize w8.drew = w9 at BK350 BK351 BK352 HB hHeld ⊢
 refine pu 0 (some 5) (bT 15 1) HT_ ?_
 refine pu 2 (some 7) (bs 15 5) HT_ ?_
 refine pu 5 (some 10) (bs 15 37) HT_ ?_
 refine pu 7 (some 12) (bs 15 165) HT_ ?_
 refine pu 10 (some 15) (bs 15 1189) HT_ ?_
 refine ta 1 (some 6) (bs 15 1191) HT_ HW_ hHeld ?_
 refine ta 3 (some 8) (bs 15 1199) HT_ HW_ hHeld ?_
 refine ta 6 (some 11) (bs 15 1263) HT_ HW_ hHeld ?_
 refine ta 8 (some 13) (bs 15 1519) HT_ HW_ hHeld ?_
 refine ta 11 (some 16) (bs 15 3567) HT_ HW_ hHeld ?_
 refine ro 4 (some 9) (bs 15 3583) HT_ (fun K hK => ?_)
 refine gs Try.func36 #[.agg #[.int .i64 a0_0, .int .i64 a0_1, .int .i64 a0_2, .int .i64 a0_3], .agg #[.int .i64 a1_0, .int .i64 a1_1, .int .i64 a1_2, .int .i64 a1_3]] ?_
 with_reducible refine (impl_Mat_times.calls _ _ _ _ _ _ _ _ _ _ _ _ _ A3.out).mono ?_
 rintro e w10 ⟨rfl, hb⟩
 refine ⟨_, rfl, ?_⟩
 replace BK350 := bB BK350 hb
 replace BK351 := bB BK351 hb
 replace BK352 := bB BK352 hb
 replace HB := bS3 HB GE350 GE351 GE352 hb
 (try clear hb)
 (try clear hb2)
 (try clear hk)
 (try clear hi)
 refine hK.out _ _ (cb6 BK350 (eb6 BK351)).out (fun hHeld => ?_)
 clear hK K
 refine norm_ (a' := ?_) ?_ ?_
 rotate_left
 ·show Act.put _ (some 9) _ = _
  simp only [Act.put, sA, sB, sC, i64_w, i32_w]
  rfl
 refine ro 9 (some 14) (bT 15 12) HT_ (fun K hK => ?_)
 refine gs Try.func37 #[.agg #[.int .i64 a0_0, .int .i64 a0_1, .int .i64 a0_2, .int .i64 a0_3], .agg #[.int .i64 a1_4, .int .i64 a1_5]] ?_
 with_reducible refine (impl_Mat_apply.calls _ _ _ _ _ _ _ _ _ A4.out).mono ?_
 rintro e w11 ⟨rfl, hb⟩
 refine ⟨_, rfl, ?_⟩
 replace BK350 := bB BK350 hb
 replace BK351 := bB BK351 hb
 replace BK352 := bB BK352 hb
 replace HB := bS3 HB GE350 GE351 GE352 hb
 (try clear hb)
 (try clear hb2)
 (try clear hk)
 (try clear hi)
 refine hK.out _ _ (cb6 BK350 (eb6 BK351)).out (fun hHeld => ?_)
 clear hK K
 refine norm_ (a' := ?_) ?_ ?_
 rotate_left
 ·show Act.put _ (some 14) _ = _
  simp only [Act.put, sA, sB, sC, i64_w, i32_w]
  rfl
 refine ro 12 (some 17) (bT 15 13) HT_ (fun K hK => ?_)
 refine gs Try.func38 #[.agg #[.int .i64 t357, .int .i64 t358], .agg #[.int .i64 a0_4, .int .i64 a0_5]] ?_
 with_reducible refine (impl_Vec_add.calls _ _ _ _ _ _ _ A5.out).mono ?_
 rintro e w12 ⟨rfl, hb⟩
 refine ⟨_, rfl, ?_⟩
 replace BK350 := bB BK350 hb
 replace BK351 := bB BK351 hb
 replace BK352 := bB BK352 hb
 replace HB := bS3 HB GE350 GE351 GE352 hb
 (try clear hb)
 (try clear hb2)
 (try clear hk)
 (try clear hi)
 refine hK.out _ _ (cb6 BK350 (eb6 BK351)).out (fun hHeld => ?_)
 clear hK K
 refine norm_ (a' := ?_) ?_ ?_
 rotate_left
 ·show Act.put _ (some 17) _ = _
  simp only [Act.put, sA, sB, sC, i64_w, i32_w]
  rfl
 refine pu 13 (some 18) (bT 15 14) HT_ ?_
 refine ro 14 (none) (bT 15 15) HT_ (fun K hK => ?_)
 have hs13 : w12.cell? ⟨gb352, 0, none⟩ = some (.int .i64 0) := bcl BK352 0
 have hfs13 := blk_frozen BK352.out 0
 have hns13_0 := NB350_352.out
 have hns13_1 := NB351_352.out
 have hms13_0 := NB352_350.out
 have hms13_1 := NB352_351.out
 have hs14 : w12.cell? ⟨gb352, 1, none⟩ = some (.int .i64 0) := bcl BK352 1
 have hfs14 := blk_frozen BK352.out 1
 have hns14_0 := NB350_352.out
 have hns14_1 := NB351_352.out
 have hms14_0 := NB352_350.out
 have hms14_1 := NB352_351.out
 have hs15 : w12.cell? ⟨gb352, 2, none⟩ = some (.int .i64 0) := bcl BK352 2
 have hfs15 := blk_frozen BK352.out 2
 have hns15_0 := NB350_352.out
 have hns15_1 := NB351_352.out
 have hms15_0 := NB352_350.out
 have hms15_1 := NB352_351.out
 have hs16 : w12.cell? ⟨gb352, 3, none⟩ = some (.int .i64 0) := bcl BK352 3
 have hfs16 := blk_frozen BK352.out 3
 have hns16_0 := NB350_352.out
 have hns16_1 := NB351_352.out
 have hms16_0 := NB352_350.out
 have hms16_1 := NB352_351.out
 have hs17 : w12.cell? ⟨gb352, 4, none⟩ = some (.int .i64 0) := bcl BK352 4
 have hfs17 := blk_frozen BK352.out 4
 have hns17_0 := NB350_352.out
 have hns17_1 := NB351_352.out
 have hms17_0 := NB352_350.out
 have hms17_1 := NB352_351.out
 have hs18 : w12.cell? ⟨gb352, 5, none⟩ = some (.int .i64 0) := bcl BK352 5
 have hfs18 := blk_frozen BK352.out 5
 have hns18_0 := NB350_352.out
 have hns18_1 := NB351_352.out
 have hms18_0 := NB352_350.out
 have hms18_1 := NB352_351.out
 refine skip_ (w1 := ?_) (by rfl) rfl ?_ ?_
 rotate_left
 ·go_simp
  rfl
 refine hK.out _ _ ⟨(cf6 NB350_352 (hHeld.1)), (cf6 NB350_352 (hHeld.2.1)), (cf6 NB350_352 (hHeld.2.2.1)), (cf6 NB350_352 (hHeld.2.2.2.1)), (cf6 NB350_352 (hHeld.2.2.2.2.1)), (cf6 NB350_352 (hHeld.2.2.2.2.2.1)), (cf6 NB351_352 (hHeld.2.2.2.2.2.2.1)), (cf6 NB351_352 (hHeld.2.2.2.2.2.2.2.1)), (cf6 NB351_352 (hHeld.2.2.2.2.2.2.2.2.1)), (cf6 NB351_352 (hHeld.2.2.2.2.2.2.2.2.2.1)), (cf6 NB351_352 (hHeld.2.2.2.2.2.2.2.2.2.2.1)), (cf6 NB351_352 (hHeld.2.2.2.2.2.2.2.2.2.2.2))⟩ (fun hHeld => ?_)
 clear hK K
 refine done_ (done_of HT_.out (by kernel_rfl)) ?_
 try go_wp2
 refine bodyPost_ret (results_cell_row rfl _ _ gb352 41 #[.int .i64 t353, .int .i64 t354, .int .i64 t355, .int .i64 t356, .int .i64 t359, .int .i64 t360] (0, 0) _ rfl (bq0 BK352) Try.underlying41 rfl (by kernel_rfl)) rfl ?_
 exact er (bbw3 HB GE350 GE351 GE352)
/-! ### impl_compareNumbers: function 56 -/
def impl_compareNumbers.l0 : Nat → List Int → List Int → Int → Int → Option (Int)
 | 0, _, _, _, _ => none
 | k + 1, x0, x1, x7, x8 => if x8 < x7 then (if 0 ≤ x8 then (if x8 < (x0.length : Int) then (if x8 < (x1.length : Int) then (if (rd x0 x8) = (rd x1 x8) then (impl_compareNumbers.l0 k x0 x1 x7 (wrap64 (x8 + 1))) else (if (rd x0 x8) < (rd x1 x8) then (some (-1)) else (some 1))) else (none)) else (none)) else (none)) else (some 0)
def impl_compareNumbers.f (k : Nat) (l0 : List Int) (l1 : List Int) : Option (Int) := impl_compareNumbers.l0 k l0 l1 (l0.length : Int) 0
set_option maxHeartbeats 8000000 in
set_option maxRecDepth 100000 in
theorem impl_compareNumbers.calls (k : Nat) (A0 : Option Addr) (c0 : Nat) (l0 : List Int) (A1 : Option Addr) (c1 : Nat) (l1 : List Int) (r : Int) (w : World) (hr0 : Kd.C (Kd.int .i64) w A0 l0.length l0) (hc0 : l0.length ≤ c0) (hr1 : Kd.C (Kd.int .i64) w A1 l1.length l1) (hc1 : l1.length ≤ c1) (h : impl_compareNumbers.f k l0 l1 = some r) :
  Calls Try.prog 56 #[.slice A0 l0.length c0, .slice A1 l1.length c1] w fun e w' => e = .returned (.int .i64 r) ∧ Drawn0 w w' := by
 have HR0 := Aside0.mk hr0
 have HC0 := Aside0.mk hc0
 clear hr0 hc0
 have HR1 := Aside0.mk hr1
 have HC1 := Aside0.mk hc1
 clear hr1 hc1
 have H : (impl_compareNumbers.l0 k l0 l1 (l0.length : Int) 0) = some r := h
 clear h
 have H' := Aside0.mk H
 clear H
 go_enter Try.func56, Try.ntmps56
 go_wp2
 repeat (go_quiet (fail); try go_wp2)
 go_loopg [8] k (fun kq v8 w' => ∃ (x8_1 : Int), v8 = .int .i64 x8_1 ∧ Aside0 (impl_compareNumbers.l0 kq l0 l1 (l0.length : Int) x8_1 = some r) ∧ Aside0 (kq ≤ k) ∧ Drawn0 w w')
 case atStart => exact ⟨(0), (by first | rfl | (simp; done) | (simp [*]; done)), H', ⟨Nat.le_refl _⟩, by repeat (first | exact Drawn0.refl _ | apply Drawn0.step)⟩
 case round =>
  clear H'
  try clear c1
  try clear p2
  obtain ⟨x8_1, rfl, HA, HK1, ⟨m1, rfl⟩⟩ := hrel
  cases gk with
  | zero => exact absurd HA.out (by simp [impl_compareNumbers.l0])
  | succ k1 =>
   have H := HA.out
   clear HA
   simp only [impl_compareNumbers.l0] at H
   by_cases c3 : x8_1 < (l0.length : Int)
   rw [if_pos c3] at H
   have c3b0 := decide_eq_true c3
   clear c3
   by_cases c4 : 0 ≤ x8_1
   rw [if_pos c4] at H
   have c4b0 := decide_eq_true c4
   clear c4
   by_cases c5 : x8_1 < (l0.length : Int)
   rw [if_pos c5] at H
   have c5b0 := decide_eq_true c5
   clear c5
   by_cases c6 : x8_1 < (l1.length : Int)
   rw [if_pos c6] at H
   have c6b0 := decide_eq_true c6
   clear c6
   by_cases c7 : (rd l0 x8_1) = (rd l1 x8_1)
   rw [if_pos c7] at H
   have c7b0 : ((rd l0 x8_1) == (rd l1 x8_1)) = true := beq_iff_eq.mpr c7
   have c7b1 : ((rd l0 x8_1) != (rd l1 x8_1)) = false := bne_eq_false_iff_eq.mpr c7
   clear c7
   have H' := Aside0.mk H
   clear H
   rotate_left
   rw [if_neg c7] at H
   have c7b0 : ((rd l0 x8_1) == (rd l1 x8_1)) = false := beq_eq_false_iff_ne.mpr c7
   have c7b1 : ((rd l0 x8_1) != (rd l1 x8_1)) = true := bne_iff_ne.mpr c7
   by_cases c8 : (rd l0 x8_1) < (rd l1 x8_1)
   rw [if_pos c8] at H
   have c8b0 := decide_eq_true c8
   clear c8
   obtain rfl := Option.some.inj H
   rotate_left
   rw [if_neg c8] at H
   have c8b0 := decide_eq_false c8
   clear c8
   obtain rfl := Option.some.inj H
   rotate_left
   ·rw [if_neg c6] at H
    exact absurd H (by simp)
   ·rw [if_neg c5] at H
    exact absurd H (by simp)
   ·rw [if_neg c4] at H
    exact absurd H (by simp)
   rw [if_neg c3] at H
   have c3b0 := decide_eq_false c3
   clear c3
   obtain rfl := Option.some.inj H
   rotate_left
   rotate_left 3
   ·go_wp2
    repeat (go_quiet (fail); try go_wp2)
    go_ret
    exact ⟨by first | rfl | (simp; done) | (simp [*]; done), by repeat (first | exact Drawn0.refl _ | apply Drawn0.step)⟩
   all_goals
    have p361 : 0 ≤ (x8_1 : Int) := od
    have q361 : x8_1 < (l0.length : Int) := od
    obtain ⟨ad361, e361, hx361_0⟩ := Kd.at_int HR0.out x8_1 p361 q361
    cases e361
    replace p361 := eq_true p361
    replace q361 := eq_true q361
    have p362 : 0 ≤ (x8_1 : Int) := od
    have q362 : x8_1 < (l1.length : Int) := od
    obtain ⟨ad362, e362, hx362_0⟩ := Kd.at_int HR1.out x8_1 p362 q362
    cases e362
    replace p362 := eq_true p362
    replace q362 := eq_true q362
   ·go_wp2
    repeat (go_quiet (fail); try go_wp2)
    go_roundg k1
    case measure => have := HK1.out; omega
    case rel => exact ⟨(wrap64 (x8_1 + 1)), (by first | rfl | (simp; done) | (simp [*]; done)), H', ⟨by have := HK1.out; omega⟩, by repeat (first | exact Drawn0.refl _ | apply Drawn0.step)⟩
   rotate_left 2
   all_goals
    have p363 : 0 ≤ (x8_1 : Int) := od
    have q363 : x8_1 < (l0.length : Int) := od
    obtain ⟨ad363, e363, hx363_0⟩ := Kd.at_int HR0.out x8_1 p363 q363
    obtain rfl : ad361 = ad363 := (by injection e363)
    replace p363 := eq_true p363
    replace q363 := eq_true q363
    have p364 : 0 ≤ (x8_1 : Int) := od
    have q364 : x8_1 < (l1.length : Int) := od
    obtain ⟨ad364, e364, hx364_0⟩ := Kd.at_int HR1.out x8_1 p364 q364
    obtain rfl : ad362 = ad364 := (by injection e364)
    replace p364 := eq_true p364
    replace q364 := eq_true q364
    go_wp2
    repeat (go_quiet (fail); try go_wp2)
    go_ret
    exact ⟨by first | rfl | (simp; done) | (simp [*]; done), by repeat (first | exact Drawn0.refl _ | apply Drawn0.step)⟩
/-! ### impl_compareMats: function 41 -/
def impl_compareMats.f (k : Nat) (a0_0 : Int) (a0_1 : Int) (a0_2 : Int) (a0_3 : Int) (a1_0 : Int) (a1_1 : Int) (a1_2 : Int) (a1_3 : Int) : Option (Int) := (impl_compareNumbers.f k (([a0_0, a0_1, a0_2, a0_3] : List Int)) (([a1_0, a1_1, a1_2, a1_3] : List Int))).bind fun t373 => (some t373)
set_option maxHeartbeats 8000000 in
set_option maxRecDepth 100000 in
theorem impl_compareMats.calls (k : Nat) (a0_0 : Int) (a0_1 : Int) (a0_2 : Int) (a0_3 : Int) (a1_0 : Int) (a1_1 : Int) (a1_2 : Int) (a1_3 : Int) (r : Int) (w : World) (h : impl_compareMats.f k a0_0 a0_1 a0_2 a0_3 a1_0 a1_1 a1_2 a1_3 = some r) :
  Calls Try.prog 41 #[.agg #[.int .i64 a0_0, .int .i64 a0_1, .int .i64 a0_2, .int .i64 a0_3], .agg #[.int .i64 a1_0, .int .i64 a1_1, .int .i64 a1_2, .int .i64 a1_3]] w fun e w' => e = .returned (.int .i64 r) ∧ Below w.heap.size w w' := by
 have hu37 := Try.underlying37
 have HB := asd (Below.refl w.heap.size w)
 have H : ((impl_compareNumbers.f k (([a0_0, a0_1, a0_2, a0_3] : List Int)) (([a1_0, a1_1, a1_2, a1_3] : List Int))).bind fun t373 => (some t373)) = some r := h
 clear h
 obtain ⟨y367, hy367⟩ : ∃ y_ : List Int, y_ = (([a0_0, a0_1, a0_2, a0_3] : List Int)) := ⟨_, rfl⟩
 replace H : ((impl_compareNumbers.f k y367 (([a1_0, a1_1, a1_2, a1_3] : List Int))).bind fun t373 => (some t373)) = some r := by first | (rw [hy367]; with_reducible exact H) | (have H2_ := (Option.bind_some _ _).symm.trans H; rw [hy367]; with_reducible exact H2_) | (have H2_ := (Option.bind_some _ _).symm.trans H; with_reducible exact H2_) | with_reducible exact H | (rw [hy367]; exact H) | exact H
 have Ny367 := Aside0.mk hy367
 clear hy367
 obtain ⟨y370, hy370⟩ : ∃ y_ : List Int, y_ = (([a1_0, a1_1, a1_2, a1_3] : List Int)) := ⟨_, rfl⟩
 replace H : ((impl_compareNumbers.f k y367 y370).bind fun t373 => (some t373)) = some r := by first | (rw [hy370]; with_reducible exact H) | (have H2_ := (Option.bind_some _ _).symm.trans H; rw [hy370]; with_reducible exact H2_) | (have H2_ := (Option.bind_some _ _).symm.trans H; with_reducible exact H2_) | with_reducible exact H | (rw [hy370]; exact H) | exact H
 have Ny370 := Aside0.mk hy370
 clear hy370
 obtain ⟨t373, A3, H⟩ := ob H
 try dsimp only at H
 obtain rfl := Option.some.inj H
 go_enter Try.func41, Try.ntmps41
 go_wp2_with (first | ((with_reducible refine gd 2 rfl ?_); refine bx #[.int .i64 a0_0, .int .i64 a0_1, .int .i64 a0_2, .int .i64 a0_3] 37 ?_; intro gb365 hg w4 BK365 hb; have GE365 := ngw0 hg HB; replace HB := bS0 HB hb; clear hb hg) | ((with_reducible refine gd 3 rfl ?_); refine bx #[.int .i64 a1_0, .int .i64 a1_1, .int .i64 a1_2, .int .i64 a1_3] 37 ?_; intro gb366 hg w5 BK366 hb; have GE366 := ngw1 hg HB GE365; replace HB := bS1 HB GE365 hb; have NB365_366 := nlt hg BK365; have NB366_365 := nsy (nlt hg BK365); replace BK365 := bB BK365 hb; clear hb hg; have hnb6 := NB365_366.out; have hnc6 := NB366_365.out; obtain ⟨hcz7_0, hcz7_1, hcz7_2, hcz7_3, hfz7_0, hfz7_1, hfz7_2, hfz7_3⟩ := bz4 BK365) | ((with_reducible refine gd 13 rfl ?_); refine Kd.R_lit (Kd.int .i64) _ 2 ?hg (N := 13) ?hd (xs := ([a0_0, a0_1, a0_2, a0_3] : List Int)) (inner := [.int .i64 a0_0, .int .i64 a0_1, .int .i64 a0_2, .int .i64 a0_3]) (ok := fun _ => True) (okp := fun _ => True) ?hr ?hp (fun _ hk => hk) trivial (Below.refl _ _) (Nat.le_refl _) (by simp) ?_; (case hd => rfl); (case hg => rfl); (case hr => first | (go_simp; done) | (go_simp; rfl)); (case hp => exact (Reps.one (show Kd.M (Kd.int .i64) _ _ _ a0_0 [.int .i64 a0_0] from rfl) (Reps.one (show Kd.M (Kd.int .i64) _ _ _ a0_1 [.int .i64 a0_1] from rfl) (Reps.one (show Kd.M (Kd.int .i64) _ _ _ a0_2 [.int .i64 a0_2] from rfl) (Reps.one (show Kd.M (Kd.int .i64) _ _ _ a0_3 [.int .i64 a0_3] from rfl) (Reps.none _ _)))))); intro v368 w8 ho9 hb hg_ hnew_; clear hg_ hnew_; (first | rw [← Ny367.out] at ho9 | (simp only [Int.reduceToNat] at ho9; rw [← Ny367.out] at ho9)); have HO369 := asd (Kd.R_lower ho9 (bsz2 HB GE365 GE366)); replace BK365 := bB BK365 hb; replace BK366 := bB BK366 hb; replace HB := bS2 HB GE365 GE366 hb; clear hb ho9; obtain ⟨hcz10_0, hcz10_1, hcz10_2, hcz10_3, hfz10_0, hfz10_1, hfz10_2, hfz10_3⟩ := bz4 BK366) | ((with_reducible refine gd 22 rfl ?_); refine Kd.R_lit (Kd.int .i64) _ 2 ?hg (N := 22) ?hd (xs := ([a1_0, a1_1, a1_2, a1_3] : List Int)) (inner := [.int .i64 a1_0, .int .i64 a1_1, .int .i64 a1_2, .int .i64 a1_3]) (ok := fun _ => True) (okp := fun _ => True) ?hr ?hp (fun _ hk => hk) trivial (Below.refl _ _) (Nat.le_refl _) (by simp) ?_; (case hd => rfl); (case hg => rfl); (case hr => first | (go_simp; done) | (go_simp; rfl)); (case hp => exact (Reps.one (show Kd.M (Kd.int .i64) _ _ _ a1_0 [.int .i64 a1_0] from rfl) (Reps.one (show Kd.M (Kd.int .i64) _ _ _ a1_1 [.int .i64 a1_1] from rfl) (Reps.one (show Kd.M (Kd.int .i64) _ _ _ a1_2 [.int .i64 a1_2] from rfl) (Reps.one (show Kd.M (Kd.int .i64) _ _ _ a1_3 [.int .i64 a1_3] from rfl) (Reps.none _ _)))))); intro v371 w11 ho12 hb hg_ hnew_; clear hg_ hnew_; (first | rw [← Ny370.out] at ho12 | (simp only [Int.reduceToNat] at ho12; rw [← Ny370.out] at ho12)); have HO372 := asd (Kd.R_lower (Kd.R_new' ho12 (Kd.R_lt (kr HO369))) (bsz2 HB GE365 GE366)); replace HO369 := asd (Kd.R_elder' (kr HO369) (Kd.R_base ho12) hb); replace BK365 := bB BK365 hb; replace BK366 := bB BK366 hb; replace HB := bS2 HB GE365 GE366 hb; clear hb ho12; obtain ⟨Ao13, co13, eo13⟩ := Kd.R_slice HO369.out; subst eo13; obtain ⟨Ao14, co14, eo14⟩ := Kd.R_slice HO372.out; subst eo14) | ((with_reducible refine gate_callee (f := 56) rfl ?_); refine gl 23 Try.func56 #[.slice Ao13 y367.length co13, .slice Ao14 y370.length co14] ?_; (with_reducible refine (impl_compareNumbers.calls _ _ _ _ _ _ _ _ _ ?side1 ?side2 ?side3 ?side4 A3.out).mono ?_); (case side1 => exact ks (Kd.R_reads' HO369.out).2.2); (case side2 => exact (Kd.R_reads' HO369.out).2.1); (case side3 => exact ks (Kd.R_reads' HO372.out).2.2); (case side4 => exact (Kd.R_reads' HO372.out).2.1); rintro e w' ⟨rfl, ⟨nd, rfl⟩⟩; refine ⟨_, rfl, ?_⟩))
 go_ret
 exact er (bbw2 HB GE365 GE366)
/-! ### impl_compareVecs: function 42 -/
def impl_compareVecs.f (k : Nat) (a0_0 : Int) (a0_1 : Int) (a1_0 : Int) (a1_1 : Int) : Option (Int) := (impl_compareNumbers.f k (([a0_0, a0_1] : List Int)) (([a1_0, a1_1] : List Int))).bind fun t382 => (some t382)
set_option maxHeartbeats 8000000 in
set_option maxRecDepth 100000 in
theorem impl_compareVecs.calls (k : Nat) (a0_0 : Int) (a0_1 : Int) (a1_0 : Int) (a1_1 : Int) (r : Int) (w : World) (h : impl_compareVecs.f k a0_0 a0_1 a1_0 a1_1 = some r) :
  Calls Try.prog 42 #[.agg #[.int .i64 a0_0, .int .i64 a0_1], .agg #[.int .i64 a1_0, .int .i64 a1_1]] w fun e w' => e = .returned (.int .i64 r) ∧ Below w.heap.size w w' := by
 have hu39 := Try.underlying39
 have HB := asd (Below.refl w.heap.size w)
 have H : ((impl_compareNumbers.f k (([a0_0, a0_1] : List Int)) (([a1_0, a1_1] : List Int))).bind fun t382 => (some t382)) = some r := h
 clear h
 obtain ⟨y376, hy376⟩ : ∃ y_ : List Int, y_ = (([a0_0, a0_1] : List Int)) := ⟨_, rfl⟩
 replace H : ((impl_compareNumbers.f k y376 (([a1_0, a1_1] : List Int))).bind fun t382 => (some t382)) = some r := by first | (rw [hy376]; with_reducible exact H) | (have H2_ := (Option.bind_some _ _).symm.trans H; rw [hy376]; with_reducible exact H2_) | (have H2_ := (Option.bind_some _ _).symm.trans H; with_reducible exact H2_) | with_reducible exact H | (rw [hy376]; exact H) | exact H
 have Ny376 := Aside0.mk hy376
 clear hy376
 obtain ⟨y379, hy379⟩ : ∃ y_ : List Int, y_ = (([a1_0, a1_1] : List Int)) := ⟨_, rfl⟩
 replace H : ((impl_compareNumbers.f k y376 y379).bind fun t382 => (some t382)) = some r := by first | (rw [hy379]; with_reducible exact H) | (have H2_ := (Option.bind_some _ _).symm.trans H; rw [hy379]; with_reducible exact H2_) | (have H2_ := (Option.bind_some _ _).symm.trans H; with_reducible exact H2_) | with_reducible exact H | (rw [hy379]; exact H) | exact H
 have Ny379 := Aside0.mk hy379
 clear hy379
 obtain ⟨t382, A3, H⟩ := ob H
 try dsimp only at H
 obtain rfl := Option.some.inj H
 go_enter Try.func42, Try.ntmps42
 go_wp2_with (first | ((with_reducible refine gd 2 rfl ?_); refine bx #[.int .i64 a0_0, .int .i64 a0_1] 39 ?_; intro gb374 hg w4 BK374 hb; have GE374 := ngw0 hg HB; replace HB := bS0 HB hb; clear hb hg) | ((with_reducible refine gd 3 rfl ?_); refine bx #[.int .i64 a1_0, .int .i64 a1_1] 39 ?_; intro gb375 hg w5 BK375 hb; have GE375 := ngw1 hg HB GE374; replace HB := bS1 HB GE374 hb; have NB374_375 := nlt hg BK374; have NB375_374 := nsy (nlt hg BK374); replace BK374 := bB BK374 hb; clear hb hg; have hnb6 := NB374_375.out; have hnc6 := NB375_374.out; obtain ⟨hcz7_0, hcz7_1, hfz7_0, hfz7_1⟩ := bz2 BK374) | ((with_reducible refine gd 9 rfl ?_); refine Kd.R_lit (Kd.int .i64) _ 2 ?hg (N := 9) ?hd (xs := ([a0_0, a0_1] : List Int)) (inner := [.int .i64 a0_0, .int .i64 a0_1]) (ok := fun _ => True) (okp := fun _ => True) ?hr ?hp (fun _ hk => hk) trivial (Below.refl _ _) (Nat.le_refl _) (by simp) ?_; (case hd => rfl); (case hg => rfl); (case hr => first | (go_simp; done) | (go_simp; rfl)); (case hp => exact (Reps.one (show Kd.M (Kd.int .i64) _ _ _ a0_0 [.int .i64 a0_0] from rfl) (Reps.one (show Kd.M (Kd.int .i64) _ _ _ a0_1 [.int .i64 a0_1] from rfl) (Reps.none _ _)))); intro v377 w8 ho9 hb hg_ hnew_; clear hg_ hnew_; (first | rw [← Ny376.out] at ho9 | (simp only [Int.reduceToNat] at ho9; rw [← Ny376.out] at ho9)); have HO378 := asd (Kd.R_lower ho9 (bsz2 HB GE374 GE375)); replace BK374 := bB BK374 hb; replace BK375 := bB BK375 hb; replace HB := bS2 HB GE374 GE375 hb; clear hb ho9; obtain ⟨hcz10_0, hcz10_1, hfz10_0, hfz10_1⟩ := bz2 BK375) | ((with_reducible refine gd 14 rfl ?_); refine Kd.R_lit (Kd.int .i64) _ 2 ?hg (N := 14) ?hd (xs := ([a1_0, a1_1] : List Int)) (inner := [.int .i64 a1_0, .int .i64 a1_1]) (ok := fun _ => True) (okp := fun _ => True) ?hr ?hp (fun _ hk => hk) trivial (Below.refl _ _) (Nat.le_refl _) (by simp) ?_; (case hd => rfl); (case hg => rfl); (case hr => first | (go_simp; done) | (go_simp; rfl)); (case hp => exact (Reps.one (show Kd.M (Kd.int .i64) _ _ _ a1_0 [.int .i64 a1_0] from rfl) (Reps.one (show Kd.M (Kd.int .i64) _ _ _ a1_1 [.int .i64 a1_1] from rfl) (Reps.none _ _)))); intro v380 w11 ho12 hb hg_ hnew_; clear hg_ hnew_; (first | rw [← Ny379.out] at ho12 | (simp only [Int.reduceToNat] at ho12; rw [← Ny379.out] at ho12)); have HO381 := asd (Kd.R_lower (Kd.R_new' ho12 (Kd.R_lt (kr HO378))) (bsz2 HB GE374 GE375)); replace HO378 := asd (Kd.R_elder' (kr HO378) (Kd.R_base ho12) hb); replace BK374 := bB BK374 hb; replace BK375 := bB BK375 hb; replace HB := bS2 HB GE374 GE375 hb; clear hb ho12; obtain ⟨Ao13, co13, eo13⟩ := Kd.R_slice HO378.out; subst eo13; obtain ⟨Ao14, co14, eo14⟩ := Kd.R_slice HO381.out; subst eo14) | ((with_reducible refine gate_callee (f := 56) rfl ?_); refine gl 15 Try.func56 #[.slice Ao13 y376.length co13, .slice Ao14 y379.length co14] ?_; (with_reducible refine (impl_compareNumbers.calls _ _ _ _ _ _ _ _ _ ?side1 ?side2 ?side3 ?side4 A3.out).mono ?_); (case side1 => exact ks (Kd.R_reads' HO378.out).2.2); (case side2 => exact (Kd.R_reads' HO378.out).2.1); (case side3 => exact ks (Kd.R_reads' HO381.out).2.2); (case side4 => exact (Kd.R_reads' HO381.out).2.1); rintro e w' ⟨rfl, ⟨nd, rfl⟩⟩; refine ⟨_, rfl, ?_⟩))
 go_ret
 exact er (bbw2 HB GE374 GE375)
/-! ### impl_compareMotions: function 26 -/
def impl_compareMotions.f (k : Nat) (a0_0 : Int) (a0_1 : Int) (a0_2 : Int) (a0_3 : Int) (a0_4 : Int) (a0_5 : Int) (a1_0 : Int) (a1_1 : Int) (a1_2 : Int) (a1_3 : Int) (a1_4 : Int) (a1_5 : Int) : Option (Int) := (impl_compareMats.f k a0_0 a0_1 a0_2 a0_3 a1_0 a1_1 a1_2 a1_3).bind fun t385 => (if t385 = 0 then ((impl_compareVecs.f k a0_4 a0_5 a1_4 a1_5).bind fun t386 => (some t386)) else (some t385))
set_option maxHeartbeats 8000000 in
set_option maxRecDepth 100000 in
theorem impl_compareMotions.calls (k : Nat) (a0_0 : Int) (a0_1 : Int) (a0_2 : Int) (a0_3 : Int) (a0_4 : Int) (a0_5 : Int) (a1_0 : Int) (a1_1 : Int) (a1_2 : Int) (a1_3 : Int) (a1_4 : Int) (a1_5 : Int) (r : Int) (w : World) (h : impl_compareMotions.f k a0_0 a0_1 a0_2 a0_3 a0_4 a0_5 a1_0 a1_1 a1_2 a1_3 a1_4 a1_5 = some r) :
  Calls Try.prog 26 #[.agg #[.int .i64 a0_0, .int .i64 a0_1, .int .i64 a0_2, .int .i64 a0_3, .int .i64 a0_4, .int .i64 a0_5], .agg #[.int .i64 a1_0, .int .i64 a1_1, .int .i64 a1_2, .int .i64 a1_3, .int .i64 a1_4, .int .i64 a1_5]] w fun e w' => e = .returned (.int .i64 r) ∧ Below w.heap.size w w' := by
 have hu41 := Try.underlying41
 have hu37 := Try.underlying37
 have hu39 := Try.underlying39
 have HB := asd (Below.refl w.heap.size w)
 have H : ((impl_compareMats.f k a0_0 a0_1 a0_2 a0_3 a1_0 a1_1 a1_2 a1_3).bind fun t385 => (if t385 = 0 then ((impl_compareVecs.f k a0_4 a0_5 a1_4 a1_5).bind fun t386 => (some t386)) else (some t385))) = some r := h
 clear h
 obtain ⟨t385, A3, H⟩ := ob H
 try dsimp only at H
 by_cases c4 : t385 = 0
 ·rw [if_pos c4] at H
  have c4b0 : (t385 == 0) = true := beq_iff_eq.mpr c4
  have c4b1 : (t385 != 0) = false := bne_eq_false_iff_eq.mpr c4
  clear c4
  obtain ⟨t386, A5, H⟩ := ob H
  try dsimp only at H
  obtain rfl := Option.some.inj H
  go_enter Try.func26, Try.ntmps26
  go_wp2_with (first | ((with_reducible refine gd 2 rfl ?_); refine bx #[.int .i64 a0_0, .int .i64 a0_1, .int .i64 a0_2, .int .i64 a0_3, .int .i64 a0_4, .int .i64 a0_5] 41 ?_; intro gb383 hg w6 BK383 hb; have GE383 := ngw0 hg HB; replace HB := bS0 HB hb; clear hb hg) | ((with_reducible refine gd 3 rfl ?_); refine bx #[.int .i64 a1_0, .int .i64 a1_1, .int .i64 a1_2, .int .i64 a1_3, .int .i64 a1_4, .int .i64 a1_5] 41 ?_; intro gb384 hg w7 BK384 hb; have GE384 := ngw1 hg HB GE383; replace HB := bS1 HB GE383 hb; have NB383_384 := nlt hg BK383; have NB384_383 := nsy (nlt hg BK383); replace BK383 := bB BK383 hb; clear hb hg; have hnb8 := NB383_384.out; have hnc8 := NB384_383.out; obtain ⟨hcz9_0, hcz9_1, hcz9_2, hcz9_3, hcz9_4, hcz9_5, hfz9_0, hfz9_1, hfz9_2, hfz9_3, hfz9_4, hfz9_5⟩ := bz6 BK383; obtain ⟨hcz10_0, hcz10_1, hcz10_2, hcz10_3, hcz10_4, hcz10_5, hfz10_0, hfz10_1, hfz10_2, hfz10_3, hfz10_4, hfz10_5⟩ := bz6 BK384) | ((with_reducible refine gate_callee (f := 41) rfl ?_); refine gl 10 Try.func41 #[.agg #[.int .i64 a0_0, .int .i64 a0_1, .int .i64 a0_2, .int .i64 a0_3], .agg #[.int .i64 a1_0, .int .i64 a1_1, .int .i64 a1_2, .int .i64 a1_3]] ?_; (with_reducible refine (impl_compareMats.calls _ _ _ _ _ _ _ _ _ _ _ A3.out).mono ?_); rintro e w11 ⟨rfl, hb⟩; refine ⟨_, rfl, ?_⟩; replace BK383 := bB BK383 hb; replace BK384 := bB BK384 hb; replace HB := bS2 HB GE383 GE384 hb; (try clear hb); obtain ⟨hcz12_0, hcz12_1, hcz12_2, hcz12_3, hcz12_4, hcz12_5, hfz12_0, hfz12_1, hfz12_2, hfz12_3, hfz12_4, hfz12_5⟩ := bz6 BK383; obtain ⟨hcz13_0, hcz13_1, hcz13_2, hcz13_3, hcz13_4, hcz13_5, hfz13_0, hfz13_1, hfz13_2, hfz13_3, hfz13_4, hfz13_5⟩ := bz6 BK384) | ((with_reducible refine gate_callee (f := 42) rfl ?_); refine gl 18 Try.func42 #[.agg #[.int .i64 a0_4, .int .i64 a0_5], .agg #[.int .i64 a1_4, .int .i64 a1_5]] ?_; (with_reducible refine (impl_compareVecs.calls _ _ _ _ _ _ _ A5.out).mono ?_); rintro e w14 ⟨rfl, hb⟩; refine ⟨_, rfl, ?_⟩; replace BK383 := bB BK383 hb; replace BK384 := bB BK384 hb; replace HB := bS2 HB GE383 GE384 hb; (try clear hb)))
  go_ret
  exact er (bbw2 HB GE383 GE384)
 ·rw [if_neg c4] at H
  have c4b0 : (t385 == 0) = false := beq_eq_false_iff_ne.mpr c4
  have c4b1 : (t385 != 0) = true := bne_iff_ne.mpr c4
  obtain rfl := Option.some.inj H
  go_enter Try.func26, Try.ntmps26
  go_wp2_with (first | ((with_reducible refine gd 2 rfl ?_); refine bx #[.int .i64 a0_0, .int .i64 a0_1, .int .i64 a0_2, .int .i64 a0_3, .int .i64 a0_4, .int .i64 a0_5] 41 ?_; intro gb383 hg w15 BK383 hb; have GE383 := ngw0 hg HB; replace HB := bS0 HB hb; clear hb hg) | ((with_reducible refine gd 3 rfl ?_); refine bx #[.int .i64 a1_0, .int .i64 a1_1, .int .i64 a1_2, .int .i64 a1_3, .int .i64 a1_4, .int .i64 a1_5] 41 ?_; intro gb384 hg w16 BK384 hb; have GE384 := ngw1 hg HB GE383; replace HB := bS1 HB GE383 hb; have NB383_384 := nlt hg BK383; have NB384_383 := nsy (nlt hg BK383); replace BK383 := bB BK383 hb; clear hb hg; have hnb17 := NB383_384.out; have hnc17 := NB384_383.out; obtain ⟨hcz18_0, hcz18_1, hcz18_2, hcz18_3, hcz18_4, hcz18_5, hfz18_0, hfz18_1, hfz18_2, hfz18_3, hfz18_4, hfz18_5⟩ := bz6 BK383; obtain ⟨hcz19_0, hcz19_1, hcz19_2, hcz19_3, hcz19_4, hcz19_5, hfz19_0, hfz19_1, hfz19_2, hfz19_3, hfz19_4, hfz19_5⟩ := bz6 BK384) | ((with_reducible refine gate_callee (f := 41) rfl ?_); refine gl 10 Try.func41 #[.agg #[.int .i64 a0_0, .int .i64 a0_1, .int .i64 a0_2, .int .i64 a0_3], .agg #[.int .i64 a1_0, .int .i64 a1_1, .int .i64 a1_2, .int .i64 a1_3]] ?_; (with_reducible refine (impl_compareMats.calls _ _ _ _ _ _ _ _ _ _ _ A3.out).mono ?_); rintro e w20 ⟨rfl, hb⟩; refine ⟨_, rfl, ?_⟩; replace BK383 := bB BK383 hb; replace BK384 := bB BK384 hb; replace HB := bS2 HB GE383 GE384 hb; (try clear hb)))
  go_ret
  exact er (bbw2 HB GE383 GE384)
/-! ### impl_Motion: function 25 -/
section
open Go Go.Sort Go.Shelf
theorem impl_Motion.C_int_block {W : World} {g : Nat} {xs : List Int} {t : TypeId} {fr : Nat × Nat} (h : W.heap[g]? = some (.cells (xs.map (Value.int .i64)).toArray t fr)) (hl : xs.length ≤ 9223372036854775807) : Kd.C (Kd.int .i64) W (some ⟨g, 0, none⟩) xs.length xs := by
 refine ⟨rfl, hl, fun _ => ⟨⟨g, 0, none⟩, rfl, fun j x hx => ⟨[.int .i64 x], rfl, rfl, fun i u hu => ?_⟩⟩⟩
 cases i with
 | succ i => simp at hu
 | zero =>
  simp only [List.getElem?_cons_zero, Option.some.injEq] at hu
  subst hu
  have e : (⟨g, 0, none⟩ : Addr).add (j * (Kd.int .i64).sz + 0) = ⟨g, j, none⟩ := by
   show (⟨g, 0, none⟩ : Addr).add (j * 1 + 0) = _
   unfold Addr.add
   split <;> simp_all
  rw [e, cell_of_row W g j _ t fr h]
  simp [List.getElem?_map, hx]
theorem impl_Motion.heap_alloc1 (W : World) (o : Obj) (g : Nat) (hg : g < W.heap.size) : (W.alloc o).heap[g]? = W.heap[g]? := Below.heap_alloc W o g hg
theorem impl_Motion.size_alloc (W : World) (o : Obj) : (W.alloc o).heap.size = W.heap.size + 1 := by simp
theorem impl_Motion.alloc4_2 (W : World) (a b c d : Obj) : ((((W.alloc a).alloc b).alloc c).alloc d).heap[W.heap.size + 1 + 1]? = some c := by
 have := blk_alloc (blk_new ((W.alloc a).alloc b) c) d
 rwa [impl_Motion.size_alloc, impl_Motion.size_alloc] at this
theorem impl_Motion.alloc4_3 (W : World) (a b c d : Obj) : ((((W.alloc a).alloc b).alloc c).alloc d).heap[W.heap.size + 1 + 1 + 1]? = some d := by
 have := blk_new (((W.alloc a).alloc b).alloc c) d
 rwa [impl_Motion.size_alloc, impl_Motion.size_alloc, impl_Motion.size_alloc] at this
set_option maxHeartbeats 4000000 in
set_option maxRecDepth 100000 in
theorem impl_Motion.cmpMats (k : Nat) (x0 x1 x2 x3 y0 y1 y2 y3 r : Int) (W : World) (h : impl_compareMats.f k x0 x1 x2 x3 y0 y1 y2 y3 = some r) :
  Calls Try.prog 41 #[.agg #[.int .i64 x0, .int .i64 x1, .int .i64 x2, .int .i64 x3], .agg #[.int .i64 y0, .int .i64 y1, .int .i64 y2, .int .i64 y3]] W fun e w' => e = .returned (.int .i64 r) ∧ ∃ q os, w' = grow (W.drewN q) os := by
 obtain ⟨t, A, H⟩ := Option.bind_eq_some_iff.1 h
 obtain rfl := Option.some.inj H
 have A := Aside0.mk A
 clear h H
 have hu_ := Try.underlying37
 go_enter Try.func41, Try.ntmps41
 go_wp2_with (go_at_call 56; refine (impl_compareNumbers.calls k _ 4 [x0, x1, x2, x3] _ 4 [y0, y1, y2, y3] _ _ (impl_Motion.C_int_block (t := 2) (fr := (0, 0)) (impl_Motion.alloc4_2 W _ _ _ _) (by simp)) (Nat.le_refl _) (impl_Motion.C_int_block (t := 2) (fr := (0, 0)) (impl_Motion.alloc4_3 W _ _ _ _) (by simp)) (Nat.le_refl _) A.out).mono ?_; rintro e w' ⟨rfl, ⟨nd, rfl⟩⟩)
 go_ret
 exact ⟨rfl, nd, _, by rw [alloc_eq_grow, alloc_eq_grow, alloc_eq_grow, alloc_eq_grow, grow_grow, grow_grow, grow_grow]; rfl⟩
set_option maxHeartbeats 4000000 in
set_option maxRecDepth 100000 in
theorem impl_Motion.cmpVecs (k : Nat) (x0 x1 y0 y1 r : Int) (W : World) (h : impl_compareVecs.f k x0 x1 y0 y1 = some r) :
  Calls Try.prog 42 #[.agg #[.int .i64 x0, .int .i64 x1], .agg #[.int .i64 y0, .int .i64 y1]] W fun e w' => e = .returned (.int .i64 r) ∧ ∃ q os, w' = grow (W.drewN q) os := by
 obtain ⟨t, A, H⟩ := Option.bind_eq_some_iff.1 h
 obtain rfl := Option.some.inj H
 have A := Aside0.mk A
 clear h H
 have hu_ := Try.underlying39
 go_enter Try.func42, Try.ntmps42
 go_wp2_with (go_at_call 56; refine (impl_compareNumbers.calls k _ 2 [x0, x1] _ 2 [y0, y1] _ _ (impl_Motion.C_int_block (t := 2) (fr := (0, 0)) (impl_Motion.alloc4_2 W _ _ _ _) (by simp)) (Nat.le_refl _) (impl_Motion.C_int_block (t := 2) (fr := (0, 0)) (impl_Motion.alloc4_3 W _ _ _ _) (by simp)) (Nat.le_refl _) A.out).mono ?_; rintro e w' ⟨rfl, ⟨nd, rfl⟩⟩)
 go_ret
 exact ⟨rfl, nd, _, by rw [alloc_eq_grow, alloc_eq_grow, alloc_eq_grow, alloc_eq_grow, grow_grow, grow_grow, grow_grow]; rfl⟩
theorem impl_Motion.gblk {W : World} {g : Nat} {o : Obj} (q : Nat) (os : Array Obj) (h : W.heap[g]? = some o) : (grow (W.drewN q) os).heap[g]? = some o := by
 have hlt := blk_lt h
 show (W.heap ++ os)[g]? = some o
 rw [Array.getElem?_append_left hlt]; exact h
theorem impl_Motion.boxed2 (W : World) (a b : Obj) : ((W.alloc a).alloc b).heap[W.heap.size]? = some a ∧ ((W.alloc a).alloc b).heap[W.heap.size + 1]? = some b := by
 refine ⟨blk_alloc (blk_new W a) b, ?_⟩
 have := blk_new (W.alloc a) b
 rwa [impl_Motion.size_alloc] at this
theorem impl_Motion.cells6 {W : World} {g : Nat} {v0 v1 v2 v3 v4 v5 : Value} {t : TypeId} {fr : Nat × Nat} (h : W.heap[g]? = some (.cells #[v0, v1, v2, v3, v4, v5] t fr)) : W.cell? ⟨g, 0, none⟩ = some v0 ∧ W.cell? ⟨g, 1, none⟩ = some v1 ∧ W.cell? ⟨g, 2, none⟩ = some v2 ∧ W.cell? ⟨g, 3, none⟩ = some v3 ∧ W.cell? ⟨g, 4, none⟩ = some v4 ∧ W.cell? ⟨g, 5, none⟩ = some v5 := by
 refine ⟨?_, ?_, ?_, ?_, ?_, ?_⟩ <;> exact cell_of_row W g _ _ t fr h
theorem impl_Motion.grow_drewN (W : World) (os : Array Obj) (q : Nat) : (grow W os).drewN q = grow (W.drewN q) os := rfl
set_option maxHeartbeats 4000000 in
set_option maxRecDepth 100000 in
theorem impl_Motion.cmpMotions (k : Nat) (x y : S41) (r : Int) (W : World) (h : impl_compareMotions.f k x.f0.f0 x.f0.f1 x.f0.f2 x.f0.f3 x.f1.f0 x.f1.f1 y.f0.f0 y.f0.f1 y.f0.f2 y.f0.f3 y.f1.f0 y.f1.f1 = some r) :
  Calls Try.prog 26 #[.agg #[.int .i64 x.f0.f0, .int .i64 x.f0.f1, .int .i64 x.f0.f2, .int .i64 x.f0.f3, .int .i64 x.f1.f0, .int .i64 x.f1.f1], .agg #[.int .i64 y.f0.f0, .int .i64 y.f0.f1, .int .i64 y.f0.f2, .int .i64 y.f0.f3, .int .i64 y.f1.f0, .int .i64 y.f1.f1]] W fun e w' => e = .returned (.int .i64 r) ∧ ∃ q os, w' = grow (W.drewN q) os := by
 obtain ⟨t, A, H⟩ := Option.bind_eq_some_iff.1 h
 have A := Aside0.mk A
 clear h
 have hu48 := Try.underlying41
 have hu46 := Try.underlying37
 have hu38 := Try.underlying39
 by_cases c : t = 0
 ·rw [if_pos c] at H
  obtain ⟨t2, B, H⟩ := Option.bind_eq_some_iff.1 H
  obtain rfl := Option.some.inj H
  have B := Aside0.mk B
  have cb : (t == 0) = true := beq_iff_eq.mpr c
  have cb2 : (t != 0) = false := bne_eq_false_iff_eq.mpr c
  clear H c
  go_enter Try.func26, Try.ntmps26
  go_wp2_with (first | (go_at_call 41; refine (impl_Motion.cmpMats k _ _ _ _ _ _ _ _ _ _ A.out).mono ?_; rintro e w' ⟨rfl, q1, os1, rfl⟩; obtain ⟨b0, b1⟩ := impl_Motion.boxed2 W (.cells #[.int .i64 x.f0.f0, .int .i64 x.f0.f1, .int .i64 x.f0.f2, .int .i64 x.f0.f3, .int .i64 x.f1.f0, .int .i64 x.f1.f1] 41) (.cells #[.int .i64 y.f0.f0, .int .i64 y.f0.f1, .int .i64 y.f0.f2, .int .i64 y.f0.f3, .int .i64 y.f1.f0, .int .i64 y.f1.f1] 41); obtain ⟨c0, c1, c2, c3, c4, c5⟩ := impl_Motion.cells6 (impl_Motion.gblk q1 os1 b0); obtain ⟨d0, d1, d2, d3, d4, d5⟩ := impl_Motion.cells6 (impl_Motion.gblk q1 os1 b1); clear b0 b1) | (go_at_call 42; refine (impl_Motion.cmpVecs k _ _ _ _ _ _ B.out).mono ?_; rintro e w' ⟨rfl, q2, os2, rfl⟩))
  go_ret
  exact ⟨rfl, q1 + q2, _, by rw [alloc_eq_grow, alloc_eq_grow]; simp only [impl_Motion.grow_drewN, grow_grow, World.drewN_drewN]; rfl⟩
 ·rw [if_neg c] at H
  obtain rfl := Option.some.inj H
  have cb : (t == 0) = false := beq_eq_false_iff_ne.mpr c
  have cb2 : (t != 0) = true := bne_iff_ne.mpr c
  clear H c
  go_enter Try.func26, Try.ntmps26
  go_wp2_with (go_at_call 41; refine (impl_Motion.cmpMats k _ _ _ _ _ _ _ _ _ _ A.out).mono ?_; rintro e w' ⟨rfl, q1, os1, rfl⟩)
  go_ret
  exact ⟨rfl, q1, _, by rw [alloc_eq_grow, alloc_eq_grow]; simp only [impl_Motion.grow_drewN, grow_grow]; rfl⟩
instance : Inhabited S41 := ⟨⟨⟨0, 0, 0, 0⟩, ⟨0, 0⟩⟩⟩
def impl_Motion.encMo (x : S41) : List Value := [.int .i64 x.f0.f0, .int .i64 x.f0.f1, .int .i64 x.f0.f2, .int .i64 x.f0.f3, .int .i64 x.f1.f0, .int .i64 x.f1.f1]
def impl_Motion.cmpL : List (Int × Int) → Int
 | [] => 0
 | p :: r => if p.1 = p.2 then impl_Motion.cmpL r else if p.1 < p.2 then -1 else 1
/-- The order of motions, as a number. -/
def impl_Motion.cfMo (x y : S41) : Int := if impl_Motion.cmpL [(x.f0.f0, y.f0.f0), (x.f0.f1, y.f0.f1), (x.f0.f2, y.f0.f2), (x.f0.f3, y.f0.f3)] = 0 then impl_Motion.cmpL [(x.f1.f0, y.f1.f0), (x.f1.f1, y.f1.f1)] else impl_Motion.cmpL [(x.f0.f0, y.f0.f0), (x.f0.f1, y.f0.f1), (x.f0.f2, y.f0.f2), (x.f0.f3, y.f0.f3)]
theorem impl_Motion.cmpNum (l m : List Int) (hl : l.length = m.length) (h8 : l.length ≤ 100) (d : Nat) : ∀ (k i : Nat), i ≤ l.length → l.length - i = d → d < k → impl_compareNumbers.l0 k l m (l.length : Int) i = some (impl_Motion.cmpL ((l.drop i).zip (m.drop i))) := by
 induction d with
 | zero =>
  intro k i hi hd hk
  obtain ⟨k, rfl⟩ : ∃ j, k = j + 1 := ⟨k - 1, by omega⟩
  simp only [impl_compareNumbers.l0]
  rw [if_neg (by omega), List.drop_eq_nil_of_le (by omega)]; rfl
 | succ d ih =>
  intro k i hi hd hk
  obtain ⟨k, rfl⟩ : ∃ j, k = j + 1 := ⟨k - 1, by omega⟩
  have h1 : i < l.length := by omega
  have h2 : i < m.length := by omega
  have r1 : Go.Proofs.YtdodghjnlekgeaaW.PrintWords.rd l (i : Int) = l[i] := by unfold Go.Proofs.YtdodghjnlekgeaaW.PrintWords.rd; rw [Int.toNat_natCast]; simp [List.getD, h1]
  have r2 : Go.Proofs.YtdodghjnlekgeaaW.PrintWords.rd m (i : Int) = m[i] := by unfold Go.Proofs.YtdodghjnlekgeaaW.PrintWords.rd; rw [Int.toNat_natCast]; simp [List.getD, h2]
  have c1 : (i : Int) < (l.length : Int) := by omega
  have c2 : (0 : Int) ≤ (i : Int) := by omega
  have c3 : (i : Int) < (m.length : Int) := by omega
  have c4 : i + 1 ≤ l.length := by omega
  have c5 : l.length - (i + 1) = d := by omega
  have c6 : d < k := by omega
  have c7 : (i : Int) ≤ 100 := by omega
  rw [List.drop_eq_getElem_cons h1, List.drop_eq_getElem_cons h2, List.zip_cons_cons]
  simp only [impl_compareNumbers.l0, impl_Motion.cmpL]
  have hw : wrap64 ((i : Int) + 1) = ((i + 1 : Nat) : Int) := by clear ih r1 r2 hl h8 hd hk c1 c3 c4 c5 c6 h1 h2 hi; unfold wrap64; omega
  rw [if_pos c1, if_pos c2, if_pos c1, if_pos c3, r1, r2, hw]
  by_cases e : l[i] = m[i]
  ·rw [if_pos e, if_pos e]; exact ih k (i + 1) c4 c5 c6
  ·rw [if_neg e, if_neg e]
   by_cases e2 : l[i] < m[i]
   ·rw [if_pos e2, if_pos e2]
   ·rw [if_neg e2, if_neg e2]
theorem impl_Motion.cfMo_eq (k : Nat) (hk : 5 ≤ k) (x y : S41) : impl_compareMotions.f k x.f0.f0 x.f0.f1 x.f0.f2 x.f0.f3 x.f1.f0 x.f1.f1 y.f0.f0 y.f0.f1 y.f0.f2 y.f0.f3 y.f1.f0 y.f1.f1 = some (impl_Motion.cfMo x y) := by
 have h4 : impl_compareNumbers.f k [x.f0.f0, x.f0.f1, x.f0.f2, x.f0.f3] [y.f0.f0, y.f0.f1, y.f0.f2, y.f0.f3] = some (impl_Motion.cmpL [(x.f0.f0, y.f0.f0), (x.f0.f1, y.f0.f1), (x.f0.f2, y.f0.f2), (x.f0.f3, y.f0.f3)]) :=
  impl_Motion.cmpNum [x.f0.f0, x.f0.f1, x.f0.f2, x.f0.f3] [y.f0.f0, y.f0.f1, y.f0.f2, y.f0.f3] rfl (by simp) 4 k 0 (by omega) rfl (by omega)
 have h2 : impl_compareNumbers.f k [x.f1.f0, x.f1.f1] [y.f1.f0, y.f1.f1] = some (impl_Motion.cmpL [(x.f1.f0, y.f1.f0), (x.f1.f1, y.f1.f1)]) :=
  impl_Motion.cmpNum [x.f1.f0, x.f1.f1] [y.f1.f0, y.f1.f1] rfl (by simp) 2 k 0 (by omega) rfl (by omega)
 unfold impl_compareMotions.f impl_compareMats.f impl_compareVecs.f impl_Motion.cfMo
 rw [h4, h2]
 simp only [Option.bind_some]
 split <;> rfl
theorem impl_Motion.cf_neg (x y : S41) : impl_Motion.cfMo x y < 0 ↔ (x.f0.f0 < y.f0.f0 ∨ (x.f0.f0 = y.f0.f0 ∧ (x.f0.f1 < y.f0.f1 ∨ (x.f0.f1 = y.f0.f1 ∧ (x.f0.f2 < y.f0.f2 ∨ (x.f0.f2 = y.f0.f2 ∧ (x.f0.f3 < y.f0.f3 ∨ (x.f0.f3 = y.f0.f3 ∧ (x.f1.f0 < y.f1.f0 ∨ (x.f1.f0 = y.f1.f0 ∧ x.f1.f1 < y.f1.f1)))))))))) := by
 unfold impl_Motion.cfMo
 simp only [impl_Motion.cmpL]
 by_cases e0 : x.f0.f0 = y.f0.f0
 ·by_cases e1 : x.f0.f1 = y.f0.f1
  ·by_cases e2 : x.f0.f2 = y.f0.f2
   ·by_cases e3 : x.f0.f3 = y.f0.f3
    ·simp only [if_pos e0, if_pos e1, if_pos e2, if_pos e3, if_true]
     by_cases e4 : x.f1.f0 = y.f1.f0
     ·rw [if_pos e4]; split <;> (try split) <;> omega
     ·rw [if_neg e4]; split <;> omega
    ·simp only [if_pos e0, if_pos e1, if_pos e2, if_neg e3]; split <;> (try split) <;> omega
   ·simp only [if_pos e0, if_pos e1, if_neg e2]; split <;> (try split) <;> omega
  ·simp only [if_pos e0, if_neg e1]; split <;> (try split) <;> omega
 ·simp only [if_neg e0]; split <;> (try split) <;> omega
theorem impl_Motion.swoMo : SWO (ltOf impl_Motion.cfMo) where
 irrefl x := by unfold ltOf; rw [decide_eq_false_iff_not, impl_Motion.cf_neg]; omega
 trans x y z h1 h2 := by unfold ltOf at *; rw [decide_eq_true_eq, impl_Motion.cf_neg] at *; omega
 ntrans x y z h1 h2 := by unfold ltOf at *; rw [decide_eq_false_iff_not, impl_Motion.cf_neg] at *; omega
theorem impl_Motion.totMo (x y : S41) (h1 : ltOf impl_Motion.cfMo x y = false) (h2 : ltOf impl_Motion.cfMo y x = false) : x = y := by
 unfold ltOf at h1 h2
 rw [decide_eq_false_iff_not, impl_Motion.cf_neg] at h1 h2
 obtain ⟨⟨a0, a1, a2, a3⟩, ⟨a4, a5⟩⟩ := x
 obtain ⟨⟨b0, b1, b2, b3⟩, ⟨b4, b5⟩⟩ := y
 dsimp only at h1 h2
 have e0 : a0 = b0 := by omega
 have e1 : a1 = b1 := by omega
 have e2 : a2 = b2 := by omega
 have e3 : a3 = b3 := by omega
 have e4 : a4 = b4 := by omega
 have e5 : a5 = b5 := by omega
 subst e0 e1 e2 e3 e4 e5
 rfl
theorem impl_Motion.cmpLaysMo (blk off size : Nat) (w : World) : CmpLays Try.prog 26 #[] impl_Motion.encMo 6 impl_Motion.cfMo blk off size w :=
 fun _ _ _ _ x y => impl_Motion.cmpMotions 20 x y (impl_Motion.cfMo x y) _ (impl_Motion.cfMo_eq 20 (by omega) x y)
/-- A list of motions in order. -/
def impl_Motion.srtMo (xs : List S41) : List S41 := xs.mergeSort fun x y => !(ltOf impl_Motion.cfMo) y x
def impl_Motion.sortMo_ren : Go.Shelf.Ren := ⟨fun | 6 => 25 | 15 => 40 | 14 => 39 | 28 => 54 | 29 => 55 | 20 => 46 | 21 => 47 | 22 => 48 | 23 => 49 | 24 => 50 | 25 => 51 | 26 => 52 | 27 => 53 | 46 => 59 | 47 => 60 | 48 => 61 | 49 => 62 | 50 => 63 | 57 => 66 | n => n, fun | 22 => 24 | 24 => 41 | 25 => 51 | 3 => 3 | 39 => 63 | 0 => 0 | 53 => 76 | 55 => 78 | 4 => 4 | 46 => 69 | 45 => 68 | 50 => 73 | 5 => 5 | 9 => 9 | 66 => 81 | 70 => 85 | 76 => 89 | 77 => 90 | n => n, fun n => n⟩
theorem impl_Motion.sortMo_lays : SlLaysF0.n6 Try.prog impl_Motion.sortMo_ren := {
 mixed := by kernel_rfl,
 f6 := ⟨Try.f25.name, by decide, Try.func25.trans (congrArg some (by kernel_rfl))⟩,
 f14 := ⟨Try.f39.name, by decide, Try.func39.trans (congrArg some (by kernel_rfl))⟩,
 f15 := Try.func40.trans (congrArg some (by kernel_rfl)),
 f20 := ⟨Try.f46.name, by decide, Try.func46.trans (congrArg some (by kernel_rfl))⟩,
 f21 := ⟨Try.f47.name, by decide, Try.func47.trans (congrArg some (by kernel_rfl))⟩,
 f22 := ⟨Try.f48.name, by decide, Try.func48.trans (congrArg some (by kernel_rfl))⟩,
 f23 := ⟨Try.f49.name, by decide, Try.func49.trans (congrArg some (by kernel_rfl))⟩,
 f24 := ⟨Try.f50.name, by decide, Try.func50.trans (congrArg some (by kernel_rfl))⟩,
 f25 := ⟨Try.f51.name, by decide, Try.func51.trans (congrArg some (by kernel_rfl))⟩,
 f26 := ⟨Try.f52.name, by decide, Try.func52.trans (congrArg some (by kernel_rfl))⟩,
 f27 := ⟨Try.f53.name, by decide, Try.func53.trans (congrArg some (by kernel_rfl))⟩,
 f28 := Try.func54.trans (congrArg some (by kernel_rfl)),
 f29 := Try.func55.trans (congrArg some (by kernel_rfl)),
 f46 := ⟨Try.f59.name, by decide, Try.func59.trans (congrArg some (by kernel_rfl))⟩,
 f47 := Try.func60.trans (congrArg some (by kernel_rfl)),
 f48 := Try.func61.trans (congrArg some (by kernel_rfl)),
 f49 := ⟨Try.f62.name, by decide, Try.func62.trans (congrArg some (by kernel_rfl))⟩,
 f50 := ⟨Try.f63.name, by decide, Try.func63.trans (congrArg some (by kernel_rfl))⟩,
 f57 := ⟨Try.f66.name, by decide, Try.func66.trans (congrArg some (by kernel_rfl))⟩,
 t0 := Try.underlying0,
 a0 := Try.isAgg0,
 z0 := Try.sizeOf0,
 v0 := Try.zeroValue0,
 t3 := Try.underlying3,
 a3 := Try.isAgg3,
 z3 := Try.sizeOf3,
 v3 := Try.zeroValue3,
 t4 := Try.underlying4,
 a4 := Try.isAgg4,
 z4 := Try.sizeOf4,
 v4 := Try.zeroValue4,
 t5 := Try.underlying5,
 a5 := Try.isAgg5,
 z5 := Try.sizeOf5,
 v5 := Try.zeroValue5,
 t9 := Try.underlying9,
 a9 := Try.isAgg9,
 z9 := Try.sizeOf9,
 v9 := Try.zeroValue9,
 t22 := Try.underlying24,
 a22 := Try.isAgg24,
 z22 := Try.sizeOf24,
 v22 := Try.zeroValue24,
 t25 := Try.underlying51,
 a25 := Try.isAgg51,
 z25 := Try.sizeOf51,
 v25 := Try.zeroValue51,
 t39 := Try.underlying63,
 a39 := Try.isAgg63,
 z39 := Try.sizeOf63,
 v39 := Try.zeroValue63,
 t45 := Try.underlying68,
 a45 := Try.isAgg68,
 z45 := Try.sizeOf68,
 v45 := Try.zeroValue68,
 t46 := Try.underlying69,
 a46 := Try.isAgg69,
 z46 := Try.sizeOf69,
 v46 := Try.zeroValue69,
 t50 := Try.underlying73,
 a50 := Try.isAgg73,
 z50 := Try.sizeOf73,
 v50 := Try.zeroValue73,
 t53 := Try.underlying76,
 a53 := Try.isAgg76,
 z53 := Try.sizeOf76,
 v53 := Try.zeroValue76,
 t55 := Try.underlying78,
 a55 := Try.isAgg78,
 z55 := Try.sizeOf78,
 v55 := Try.zeroValue78,
 t66 := Try.underlying81,
 a66 := Try.isAgg81,
 z66 := Try.sizeOf81,
 v66 := Try.zeroValue81,
 t70 := Try.underlying85,
 a70 := Try.isAgg85,
 z70 := Try.sizeOf85,
 v70 := Try.zeroValue85,
 t76 := Try.underlying89,
 a76 := Try.isAgg89,
 z76 := Try.sizeOf89,
 v76 := Try.zeroValue89,
 t77 := Try.underlying90,
 a77 := Try.isAgg90,
 z77 := Try.sizeOf90,
 v77 := Try.zeroValue90 }

theorem impl_Motion.enc_len (x : S41) : (impl_Motion.encMo x).length = 6 := rfl
theorem impl_Motion.enc_one (x : S41) : ∀ v ∈ impl_Motion.encMo x, v.oneCell' = true := by
 intro v hv
 simp only [impl_Motion.encMo, List.mem_cons, List.not_mem_nil, or_false] at hv
 rcases hv with rfl | rfl | rfl | rfl | rfl | rfl <;> rfl
/-- The cells of a row of motions. -/
theorem impl_Motion.flat_at (d : Array S41) (t : Nat) (h : t < d.size * 6) : (flatK impl_Motion.encMo 6 d)[t]! = (impl_Motion.encMo d[t / 6]!)[t % 6]! := get_flatK impl_Motion.encMo 6 d t h
theorem impl_Motion.reps_at {R : S41 → List Value → Prop} (hR : ∀ x cs, R x cs → cs = impl_Motion.encMo x) {xs : List S41} {inner : List Value} (h : Reps R 6 xs inner) (t : Nat) (ht : t < xs.length * 6) : inner[t]? = some ((impl_Motion.encMo xs.toArray[t / 6]!)[t % 6]!) := by
 have hj : t / 6 < xs.length := by omega
 have hx : xs[t / 6]? = some xs[t / 6] := List.getElem?_eq_getElem hj
 have hc := hR _ _ (h.2 _ _ hx)
 have h6 : t % 6 < 6 := Nat.mod_lt _ (by omega)
 have e1 : inner[t]? = ((inner.drop (t / 6 * 6)).take 6)[t % 6]? := by
  rw [List.getElem?_take_of_lt h6, List.getElem?_drop]
  congr 1; omega
 have e2 : xs.toArray[t / 6]! = xs[t / 6] := by simp [hj]
 rw [e1, hc, e2]
 have h7 : t % 6 < (impl_Motion.encMo xs[t / 6]).length := by rw [impl_Motion.enc_len]; exact h6
 rw [List.getElem?_eq_getElem h7]
 congr 1
 simp [h7]
theorem impl_Motion.heap_sorted (W : World) (g m : Nat) (d : Array S41) (os : Array Obj) (cur : Array Value) (hg : W.heap[g]? = some (.cells cur 41 (0, 0))) :
  (sortWorldK impl_Motion.encMo 6 W g 0 m d os).heap[g]? = some (.cells (putCells id 0 (flatK impl_Motion.encMo 6 d) cur) 41 (0, 0)) := by
 have hlt := blk_lt hg
 unfold sortWorldK grow putRowK putRow mapBlock
 show ((W.heap.modify g (onCells (putCells id 0 (flatK impl_Motion.encMo 6 d)))) ++ os)[g]? = _
 rw [Array.getElem?_append_left (by simpa using hlt), Array.getElem?_modify]
 rw [if_pos rfl, hg]
 rfl
theorem impl_Motion.heap_other (W : World) (g m k : Nat) (d : Array S41) (os : Array Obj) (hk : k < W.heap.size) (hne : k ≠ g) : (sortWorldK impl_Motion.encMo 6 W g 0 m d os).heap[k]? = W.heap[k]? := by
 unfold sortWorldK grow putRowK putRow mapBlock
 show ((W.heap.modify g (onCells (putCells id 0 (flatK impl_Motion.encMo 6 d)))) ++ os)[k]? = _
 rw [Array.getElem?_append_left (by simpa using hk), Array.getElem?_modify, if_neg (Ne.symm hne)]
theorem impl_Motion.srt_length (xs : List S41) : (impl_Motion.srtMo xs).length = xs.length := List.length_mergeSort _
theorem impl_Motion.srt_nil : impl_Motion.srtMo [] = [] := List.eq_nil_of_length_eq_zero (impl_Motion.srt_length [])
theorem impl_Motion.sorted_row {W : World} {base : Nat} {ok : Nat → Prop} {g cap m : Nat} {cur : Array Value} {ys : List S41} (os : Array Obj) (h0 : ∀ k, (Value.slice (some ⟨g, 0, none⟩) ys.length cap).ownBlock = some k → ok k) (hb : base ≤ g) (hg : W.heap[g]? = some (.cells cur 41 (0, 0))) (hnc : ys.length ≤ cap) (hcm : cap ≤ maxLen) (hcs : cur.size = cap * 6) :
  Kd.R k41 41 (sortWorldK impl_Motion.encMo 6 W g 0 m ys.toArray os) base ok (.slice (some ⟨g, 0, none⟩) ys.length cap) ys := by
 have hfs : (flatK impl_Motion.encMo 6 ys.toArray).size = ys.length * 6 := by simp
 refine ⟨h0, (flatK impl_Motion.encMo 6 ys.toArray).toList, ⟨by simp; rfl, .inr ⟨g, cap, _, rfl, hb, impl_Motion.heap_sorted W g m ys.toArray os cur hg, hnc, hcm, by simp [putCells, hcs]; rfl, ?_⟩⟩, ?_⟩
 ·apply List.ext_getElem?
  intro t
  show (List.take (ys.length * 6) _)[t]? = _
  by_cases ht : t < ys.length * 6
  ·have htc : t < cur.size := by rw [hcs]; exact Nat.lt_of_lt_of_le ht (Nat.mul_le_mul_right 6 hnc)
   have ht' : t < (flatK impl_Motion.encMo 6 ys.toArray).size := by rw [hfs]; exact ht
   rw [List.getElem?_take_of_lt ht]
   simp [putCells, htc, hfs, ht]
  ·rw [List.getElem?_eq_none (by rw [List.length_take]; omega), List.getElem?_eq_none (by simp; omega)]
 ·refine ⟨by simp; rfl, fun j p hp => ?_⟩
  have hj : j < ys.length := (List.getElem?_eq_some_iff.1 hp).1
  have hpj : ys[j] = p := (List.getElem?_eq_some_iff.1 hp).2
  have e : ((flatK impl_Motion.encMo 6 ys.toArray).toList.drop (j * 6)).take 6 = impl_Motion.encMo p := by
   apply List.ext_getElem?
   intro t
   by_cases ht : t < 6
   ·have h1 : j * 6 + t < (flatK impl_Motion.encMo 6 ys.toArray).size := by rw [hfs]; omega
    have h2 : j * 6 + t < ys.toArray.size * 6 := by simpa using (show j * 6 + t < ys.length * 6 by omega)
    have h3 := impl_Motion.flat_at ys.toArray (j * 6 + t) h2
    rw [List.getElem?_take_of_lt ht, List.getElem?_drop]
    have h4 : (flatK impl_Motion.encMo 6 ys.toArray).toList[j * 6 + t]? = some ((flatK impl_Motion.encMo 6 ys.toArray)[j * 6 + t]!) := by
     rw [Array.getElem?_toList, getElem!_pos (flatK impl_Motion.encMo 6 ys.toArray) (j * 6 + t) h1]; exact Array.getElem?_eq_getElem h1
    rw [h4, h3, show (j * 6 + t) / 6 = j by omega, show (j * 6 + t) % 6 = t by omega]
    have h5 : ys.toArray[j]! = p := by rw [← hpj]; simp [hj]
    rw [h5]
    have h6 : t < (impl_Motion.encMo p).length := by rw [impl_Motion.enc_len]; exact ht
    rw [List.getElem?_eq_getElem h6]
    congr 1
    simp [h6]
   ·rw [List.getElem?_eq_none (by rw [List.length_take]; omega), List.getElem?_eq_none (by rw [impl_Motion.enc_len]; omega)]
  show k41.M _ _ _ p (((flatK impl_Motion.encMo 6 ys.toArray).toList.drop (j * 6)).take 6)
  rw [e]
  exact k41_mkM _ _ _ p
theorem impl_Motion.sortR {W : World} {base : Nat} {ok : Nat → Prop} {v : Value} {xs : List S41} (HR : Kd.R k41 41 W base ok v xs) (hn : xs.length < 4611686018427387904) :
  Calls Try.prog 25 #[v, .func (.func 26) #[] #[]] W fun e w' => e = .returned (.tuple #[]) ∧ Kd.R k41 41 w' base ok v (impl_Motion.srtMo xs) ∧ W.grownBy w' v.ownBlock := by
 obtain ⟨h0, inner, ⟨hil, hown⟩, hr⟩ := HR
 have hsz : k41.sz = 6 := rfl
 rcases hown with ⟨rfl, hz⟩ | ⟨g, cap, cur, rfl, hb, hg, hnc, hcm, hcs, htk⟩
 ·have hx : xs = [] := List.eq_nil_of_length_eq_zero hz
  subst hx
  refine (AnyF.slices_SortFunc_none (P := Try.prog) (ρ := impl_Motion.sortMo_ren) impl_Motion.sortMo_lays none 0 (.func (.func 26) #[] #[]) W).mono ?_
  rintro e w' ⟨rfl, rfl⟩
  refine ⟨rfl, ?_, ⟨rfl, rfl, rfl, Nat.le_refl _, fun _ _ _ => rfl⟩⟩
  rw [impl_Motion.srt_nil]; exact Kd.R_nil k41 41 _ _ _
 ·by_cases hz : xs.length = 0
  ·have hx : xs = [] := List.eq_nil_of_length_eq_zero hz
   subst hx
   refine (AnyF.slices_SortFunc_none (P := Try.prog) (ρ := impl_Motion.sortMo_ren) impl_Motion.sortMo_lays (some ⟨g, 0, none⟩) cap (.func (.func 26) #[] #[]) W).mono ?_
   rintro e w' ⟨rfl, rfl⟩
   refine ⟨rfl, ?_, ⟨rfl, rfl, rfl, Nat.le_refl _, fun _ _ _ => rfl⟩⟩
   rw [impl_Motion.srt_nil]
   exact ⟨h0, inner, ⟨hil, .inr ⟨g, cap, cur, rfl, hb, hg, hnc, hcm, hcs, htk⟩⟩, hr⟩
  ·have eg : ∀ args w, (callFunc 26 args).run Try.prog w = .ok (.enter 26 args) w := enters_of Try.func26 (by kernel_rfl) rfl
   have hH : HoldsK impl_Motion.encMo 6 W g 0 xs.toArray := by
    intro t ht
    have ht6 : t < xs.length * 6 := by simpa using ht
    have h1 := impl_Motion.reps_at (fun x cs h => k41_openM h) hr t ht6
    have h2 : cur[t]? = inner[t]? := by
     rw [← htk, hsz, List.getElem?_take_of_lt ht6, Array.getElem?_toList]
    have h3 := impl_Motion.flat_at xs.toArray t (by simpa using ht6)
    rw [Nat.zero_add]
    refine ⟨?_, blk_frozen hg t⟩
    rw [cell_of_row W g t cur 41 (0, 0) hg, h2, h1]
    exact congrArg some h3.symm
   have hcon := AnyQ.slices_SortFunc_total (P := Try.prog) (ρ := impl_Motion.sortMo_ren) impl_Motion.sortMo_lays 6 Try.isAgg41 Try.sizeOf41 impl_Motion.encMo impl_Motion.enc_len impl_Motion.enc_one impl_Motion.cfMo impl_Motion.swoMo 26 #[] g 0 cap xs.toArray W eg (impl_Motion.cmpLaysMo g 0 xs.toArray.size W) hH (blk_lt hg) (by simpa using hn) impl_Motion.totMo
   have hcon : Calls Try.prog 25 #[.slice (some ⟨g, 0, none⟩) xs.length cap, .func (.func 26) #[] #[]] W _ := hcon
   refine hcon.mono ?_
   rintro e w' ⟨rfl, m, os, rfl⟩
   refine ⟨rfl, ?_, ⟨rfl, rfl, rfl, ?_, ?_⟩⟩
   ·have := impl_Motion.sorted_row (W := W) (base := base) (ok := ok) (g := g) (cap := cap) (m := m) (cur := cur) (ys := impl_Motion.srtMo xs) os (by rw [impl_Motion.srt_length]; exact h0) hb hg (by rw [impl_Motion.srt_length]; exact hnc) hcm hcs
    rw [impl_Motion.srt_length] at this
    exact this
   ·show W.heap.size ≤ (W.heap.modify g _ ++ os).size
    simp
   ·intro k hk hne
    exact impl_Motion.heap_other W g m k _ os hk (fun h => hne (by subst h; rfl))
end

/-! ### mapMo: function 99999 -/
theorem mapMo.wide : (match Try.prog.underlying 41 with | some (.array _ _) | some (.struct _) => true | _ => false) = true := by rw [Try.underlying41]
set_option maxRecDepth 100000 in
theorem mapMo.law : Go.Maps.Keyed Try.prog 41 := Go.Maps.Keyed.of_law (deep_law_laid (P := Try.prog) (by kernel_rfl) (m := 3) (by omega) (of_decide_eq_true (by kernel_rfl)) (by kernel_rfl) mapMo.wide)
def mapMo.enc (x : S41) : Value := .agg #[.int .i64 x.f0.f0, .int .i64 x.f0.f1, .int .i64 x.f0.f2, .int .i64 x.f0.f3, .int .i64 x.f1.f0, .int .i64 x.f1.f1]
def mapMo.lits (x : S41) : List Lit := [.int .i64 x.f0.f0, .int .i64 x.f0.f1, .int .i64 x.f0.f2, .int .i64 x.f0.f3, .int .i64 x.f1.f0, .int .i64 x.f1.f1]
/-- Do a motion's numbers fit? -/
def mapMo.wf (x : S41) : Bool := (mapMo.lits x).all Lit.wf
def mapMo.kl (x : S41) : Lit := .string (keyBytes (mapMo.lits x))
theorem mapMo.hkey (x : S41) (h : mapMo.wf x = true) : keyOf Try.prog 41 (mapMo.enc x) = some (mapMo.kl x) := by
 simp only [mapMo.wf, mapMo.lits, List.all_cons, List.all_nil, Bool.and_true, Bool.and_eq_true] at h
 obtain ⟨h0, h1, h2, h3, h4, h5⟩ := h
 have k2 : ∀ (d : Nat) (n : Int), (Lit.int .i64 n).wf = true → Try.prog.keyLits (d + 1) 2 [.int .i64 n] = some [.int .i64 n] := fun d n hn => by
  simp [Program.keyLits, Try.underlying2, hn]
 have k34 : ∀ (d : Nat) (a b : Int), (Lit.int .i64 a).wf = true → (Lit.int .i64 b).wf = true → Try.prog.keyLits (d + 2) 39 [.int .i64 a, .int .i64 b] = some [.int .i64 a, .int .i64 b] := fun d a b ha hb => by
  unfold Program.keyLits
  rw [Try.underlying39]
  have c : Try.prog.cellsOf 39 = 2 := by kernel_rfl
  have c2 : Try.prog.cellsOf 2 = 1 := by kernel_rfl
  simp [c, c2, k2, ha, hb]
 have k33 : ∀ (d : Nat) (a b c e : Int), (Lit.int .i64 a).wf = true → (Lit.int .i64 b).wf = true → (Lit.int .i64 c).wf = true → (Lit.int .i64 e).wf = true → Try.prog.keyLits (d + 2) 37 [.int .i64 a, .int .i64 b, .int .i64 c, .int .i64 e] = some [.int .i64 a, .int .i64 b, .int .i64 c, .int .i64 e] := fun d a b c e ha hb hc he => by
  unfold Program.keyLits
  rw [Try.underlying37]
  have c' : Try.prog.cellsOf 37 = 4 := by kernel_rfl
  have c2 : Try.prog.cellsOf 2 = 1 := by kernel_rfl
  simp [c', c2, k2, ha, hb, hc, he]
 have hf : (mapMo.enc x).formed Try.prog 41 = true := by
  simp [Value.formed, mapMo.enc, Try.underlying41, show Try.prog.cellsOf 41 = 6 by kernel_rfl]
 have hk : Try.prog.keyType 41 = true := by kernel_rfl
 have hs : ∃ m, Try.prog.types.size = m + 2 := ⟨Try.prog.types.size - 2, by have : (2 : Nat) ≤ Try.prog.types.size := of_decide_eq_true (by kernel_rfl); omega⟩
 obtain ⟨m, hm⟩ := hs
 unfold keyOf
 rw [Try.underlying41, hm]
 dsimp only
 rw [hk, hf]
 unfold Program.keyLits
 rw [Try.underlying41]
 have c : Try.prog.cellsOf 41 = 6 := by kernel_rfl
 have c33 : Try.prog.cellsOf 37 = 4 := by kernel_rfl
 have c34 : Try.prog.cellsOf 39 = 2 := by kernel_rfl
 simp [mapMo.enc, Value.cells, c, c33, c34, k33, k34, h0, h1, h2, h3, h4, h5, mapMo.kl, mapMo.lits]
/-- Are two motions the same? -/
def mapMo.eqB (x y : S41) : Bool := x.f0.f0 == y.f0.f0 && (x.f0.f1 == y.f0.f1 && (x.f0.f2 == y.f0.f2 && (x.f0.f3 == y.f0.f3 && (x.f1.f0 == y.f1.f0 && x.f1.f1 == y.f1.f1))))
theorem mapMo.eqB_iff (x y : S41) : mapMo.eqB x y = true ↔ x = y := by
 obtain ⟨⟨a, b, c, d⟩, e, f⟩ := x
 obtain ⟨⟨a', b', c', d'⟩, e', f'⟩ := y
 simp only [mapMo.eqB, Bool.and_eq_true, beq_iff_eq]
 constructor
 ·rintro ⟨rfl, rfl, rfl, rfl, rfl, rfl⟩; rfl
 ·intro h; cases h; exact ⟨rfl, rfl, rfl, rfl, rfl, rfl⟩
theorem mapMo.enc_inj {x y : S41} (h : mapMo.enc x = mapMo.enc y) : x = y := by
 obtain ⟨⟨a, b, c, d⟩, e, f⟩ := x
 obtain ⟨⟨a', b', c', d'⟩, e', f'⟩ := y
 simp only [mapMo.enc, Value.agg.injEq, Array.mk.injEq, List.cons.injEq, Value.int.injEq, true_and, and_true] at h
 obtain ⟨rfl, rfl, rfl, rfl, rfl, rfl⟩ := h
 rfl
theorem mapMo.kl_inj {x y : S41} (hx : mapMo.wf x = true) (hy : mapMo.wf y = true) (h : mapMo.kl x = mapMo.kl y) : x = y := by
 have e1 := mapMo.hkey x hx
 have e2 := mapMo.hkey y hy
 rw [← h] at e2
 exact mapMo.enc_inj (mapMo.law.inj e1 e2)
/-- What the map reads as. -/
def mapMo.setD (xs : List S41) (D : DataW Unit) : DataW Unit := xs.foldl (fun D x => D.put (mapMo.kl x) (.lit (.bool true))) D
theorem mapMo.setD_at (y : S41) (hy : mapMo.wf y = true) : ∀ (xs : List S41) (D : DataW Unit) (b : Bool), (∀ x ∈ xs, mapMo.wf x = true) → Go.Maps.IsMap D → D.atKey (mapMo.kl y) (.lit (.bool false)) = .lit (.bool b) →
  (mapMo.setD xs D).atKey (mapMo.kl y) (.lit (.bool false)) = .lit (.bool (b || xs.any fun x => mapMo.eqB x y))
 | [], D, b, _, _, h => by simpa [mapMo.setD] using h
 | x :: xs, D, b, hw, hD, h => by
  have hx := hw x (List.mem_cons_self)
  have ih := mapMo.setD_at y hy xs (D.put (mapMo.kl x) (.lit (.bool true))) (b || mapMo.eqB x y) (fun z hz => hw z (List.mem_cons_of_mem _ hz)) (hD.put _ _) (by
   by_cases e : x = y
   ·subst e
    rw [Go.Maps.atKey_put_same hD (mapMo.law.key (mapMo.hkey x hx))]
    rw [(mapMo.eqB_iff x x).2 rfl, Bool.or_true]
   ·rw [Go.Maps.atKey_put_other (fun g => e (mapMo.kl_inj hx hy g.symm)), h]
    have : mapMo.eqB x y = false := Bool.eq_false_iff.2 (fun g => e ((mapMo.eqB_iff x y).1 g))
    rw [this, Bool.or_false])
  rw [List.any_cons, ← Bool.or_assoc]
  exact ih
/-- Block B is a map of the call's own whose keys are the motions of a list. -/
def mapMo.MS (w : World) (B : Nat) (xs : List S41) : Prop := (∀ x ∈ xs, mapMo.wf x = true) ∧ w.ownsMap Try.prog 41 (plainElem (H := Unit) Try.prog 4) B xs.length (mapMo.setD xs (.map []))
set_option maxRecDepth 100000 in
theorem mapMo.plain_inv {v : Value} {b : Bool} {ps : List MemPlace} (h : plainElem (H := Unit) Try.prog 4 v = some (.lit (.bool b), ps)) : v = .bool b := by
 unfold plainElem at h
 rw [Try.underlying4] at h
 cases v <;> simp at h
 rw [h.1]
theorem mapMo.MS_run {w : World} {B : Nat} {xs : List S41} (h : mapMo.MS w B xs) (y : S41) (hy : mapMo.wf y = true) :
  (Instr.lookup 48 (.map (some B)) (mapMo.enc y) false).run Try.prog w = .ok (.bool (xs.any fun x => mapMo.eqB x y)) w := by
 obtain ⟨v, ps, hrun, hv⟩ := h.2.lookup (e := 4) mapMo.law Try.underlying48 (z := .bool false) (by kernel_rfl) (plainElem_bool Try.underlying4 false) (mapMo.hkey y hy)
 rw [mapMo.setD_at y hy xs (.map []) false h.1 Go.Maps.isMap_empty rfl, Bool.false_or] at hv
 rw [hrun, mapMo.plain_inv hv]
theorem mapMo.MS_ne {w : World} {B : Nat} {xs : List S41} (h : mapMo.MS w B xs) {g : Nat} {cs : Array Value} {t : TypeId} {p : Nat × Nat} (b : w.heap[g]? = some (.cells cs t p)) : B ≠ g := by
 obtain ⟨-, es, clock, hb, -⟩ := h
 rintro rfl
 rw [hb] at b
 cases b
theorem mapMo.MS_move {w w1 : World} {B : Nat} {xs : List S41} (h : mapMo.MS w B xs) (hm : w1.heap[B]? = w.heap[B]?) : mapMo.MS w1 B xs := by
 obtain ⟨h0, es, clock, hb, r⟩ := h
 exact ⟨h0, es, clock, hm.trans hb, r⟩
theorem mapMo.MS_below {w w1 : World} {B : Nat} {xs : List S41} (h : mapMo.MS w B xs) (hb : Below w.heap.size w w1) : mapMo.MS w1 B xs := mapMo.MS_move h (hb.block B h.2.lt)
theorem mapMo.MS_alloc {w : World} {B : Nat} {xs : List S41} (h : mapMo.MS w B xs) (o : Obj) : mapMo.MS (w.alloc o) B xs := mapMo.MS_below h (below_alloc (Below.refl _ _) _)
theorem mapMo.MS_drewN {w : World} {B : Nat} {xs : List S41} (h : mapMo.MS w B xs) (n : Nat) : mapMo.MS (w.drewN n) B xs := h
theorem mapMo.MS_drew {w : World} {B : Nat} {xs : List S41} (h : mapMo.MS w B xs) : mapMo.MS w.drew B xs := h
theorem mapMo.MS_set {w : World} {B : Nat} {xs : List S41} {g j : Nat} {v : Value} (h : mapMo.MS w B xs) (hne : B ≠ g) : mapMo.MS (w.setCell ⟨g, j, none⟩ v) B xs := mapMo.MS_move h (Below.heap_setCell w _ v B hne)
theorem mapMo.MS_over {w w1 : World} {B : Nat} {xs : List S41} (h : mapMo.MS w B xs) {v : Value} {e' : Nat} (hty : ∀ k, v.ownBlock = some k → ∃ cells, w.heap[k]? = some (.cells cells e' (0, 0))) (hg : w.grownBy w1 v.ownBlock) : mapMo.MS w1 B xs :=
 mapMo.MS_move h (hg.block B h.2.lt (fun e => by obtain ⟨cs, hc⟩ := hty B e.symm; exact mapMo.MS_ne h hc rfl))
theorem mapMo.R_map {α : Type} {d : Kd α} {e : Nat} {w w1 : World} {base : Nat} {ok : Nat → Prop} {v : Value} {l : List α} (h : d.R e w base ok v l) {B : Nat} {xs : List S41} (hM : mapMo.MS w B xs) (hg : w.grownBy w1 (some B)) : d.R e w1 base ok v l :=
 Kd.R_mono (Kd.R_move (Kd.R_bound h) (fun k hk => by
  obtain ⟨_, _, hlt, _, _, cs, hc⟩ := hk
  exact hg.block k hlt (fun e => (mapMo.MS_ne hM hc) (Option.some.inj e).symm))) (fun _ hk => hk.1)
/-- Is a motion among the map's keys? (Its numbers must fit.) -/
def mapMo.has (_ : Nat) (xs : List S41) (y0 y1 y2 y3 y4 y5 : Int) : Option Bool := if mapMo.wf ⟨⟨y0, y1, y2, y3⟩, ⟨y4, y5⟩⟩ = true then some (xs.any fun x => mapMo.eqB x ⟨⟨y0, y1, y2, y3⟩, ⟨y4, y5⟩⟩) else none
theorem mapMo.has_mono : ∀ (xs : List S41) (y0 y1 y2 y3 y4 y5 : Int) (k : Nat), LeO (mapMo.has k xs y0 y1 y2 y3 y4 y5) (mapMo.has (k + 1) xs y0 y1 y2 y3 y4 y5) := fun _ _ _ _ _ _ _ _ => LeO.refl _
theorem mapMo.has_inv {k : Nat} {xs : List S41} {y0 y1 y2 y3 y4 y5 : Int} {r : Bool} (A : mapMo.has k xs y0 y1 y2 y3 y4 y5 = some r) : mapMo.wf ⟨⟨y0, y1, y2, y3⟩, ⟨y4, y5⟩⟩ = true ∧ (xs.any fun x => mapMo.eqB x ⟨⟨y0, y1, y2, y3⟩, ⟨y4, y5⟩⟩) = r := by
 unfold mapMo.has at A
 by_cases h : mapMo.wf ⟨⟨y0, y1, y2, y3⟩, ⟨y4, y5⟩⟩ = true
 ·rw [if_pos h] at A; exact ⟨h, Option.some.inj A⟩
 ·rw [if_neg h] at A; cases A
theorem mapMo.blk_put {w w1 : World} {g : Nat} {cs : Array Value} {t : TypeId} (h : w.heap[g]? = some (.cells cs t (0, 0))) {B : Nat} {xs : List S41} (hM : mapMo.MS w B xs) (hg : w.grownBy w1 (some B)) : w1.heap[g]? = some (.cells cs t (0, 0)) :=
 (hg.block g (blk_lt h) (fun e => mapMo.MS_ne hM h (Option.some.inj e).symm)).trans h
theorem mapMo.below_put {w W w1 : World} {g : Nat} (h : Below w.heap.size w W) (hB : w.heap.size ≤ g) (hg : W.grownBy w1 (some g)) : Below w.heap.size w w1 :=
 h.trans ⟨hg.os, hg.tape, hg.output, hg.size, fun i hi => hg.block i (Nat.lt_of_lt_of_le hi h.size) (fun e => by have := Option.some.inj e; omega)⟩
section
variable {ops : Array Oper} {rest : List Oper} {o : Oper} {a : Act} {Q : Exit → Act → World → Prop} {Kc : Act → World → Prop} {W : World}
theorem mapMo.make_event (hgd : o.guard = none) {N : Tmp} (_hd : o.dst = some N) (hrun : (execOp a.eval o).run Try.prog W = .ok (.value (.map (some W.heap.size))) (W.alloc (.map #[] 0)))
  (h : ∀ g, g = W.heap.size → ∀ w1, mapMo.MS w1 g [] → Below W.heap.size W w1 → wpList Try.prog ops Q rest (a.put o.dst (.map (some g))) w1) : wpList Try.prog ops Q (o :: rest) a W :=
 Kd.event_run hgd hrun (h _ rfl _ ⟨fun _ hx => absurd hx (by simp), World.ownsMap_made W _ _ _⟩ (below_alloc (Below.refl _ _) _))
theorem mapMo.put_event (hgd : o.guard = none) (m x v : Operand) (hop : o.op = Op.mapUpdate 48 m x v) {B : Nat} {xs : List S41} (hm : a.eval m = .map (some B)) (hM : mapMo.MS W B xs) (y : S41) (hx : a.eval x = mapMo.enc y) (hv : a.eval v = .bool true) (hy : mapMo.wf y = true) (hn : xs.length < 2932031007402)
  (h : ∀ w1, mapMo.MS w1 B (xs ++ [y]) → W.grownBy w1 (some B) → wpList Try.prog ops Q rest (a.put o.dst undef) w1) : wpList Try.prog ops Q (o :: rest) a W :=
 wpList_mapUpdate_own W hgd m x v 48 hop 41 4 mapMo.law Try.underlying48 (plainElem (H := Unit) Try.prog 4) B xs.length _ hm hM.2 (by unfold maxLen; omega) _ _ _ hx hv (mapMo.hkey y hy) _ [] (plainElem_bool Try.underlying4 true)
  (fun w' h1 h2 => h w' ⟨fun z hz => by
   rcases List.mem_append.1 hz with hz | hz
   ·exact hM.1 z hz
   ·rw [List.mem_singleton.1 hz]; exact hy, by
   rw [List.length_append]
   unfold mapMo.setD at h1 ⊢
   rw [List.foldl_append]
   exact h1⟩ h2)
theorem mapMo.gate_ins {t : TypeId} {m x v : Operand} (_h : o.op = Op.insert t m x v) (h : wpList Try.prog ops Q (o :: rest) a W) : wpList Try.prog ops Q (o :: rest) a W := h
/-- An entry of a map that is written out. -/
theorem mapMo.ins_event (hgd : o.guard = none) (m x v : Operand) (hop : o.op = Op.insert 48 m x v) {B : Nat} {xs : List S41} (hm : a.eval m = .map (some B)) (hM : mapMo.MS W B xs) (y : S41) (hx : a.eval x = mapMo.enc y) (hv : a.eval v = .bool true) (hy : mapMo.wf y = true) (hn : xs.length < 2932031007402)
  (h : ∀ w1, mapMo.MS w1 B (xs ++ [y]) → W.grownBy w1 (some B) → wpList Try.prog ops Q rest (a.put o.dst undef) w1) : wpList Try.prog ops Q (o :: rest) a W := by
 refine wpList_plain hgd fun K' hK' => ?_
 obtain ⟨w', hrun, r1, r2⟩ := hM.2.update mapMo.law Try.underlying48 (R := plainElem (H := Unit) Try.prog 4) (by unfold maxLen; omega) (mapMo.hkey y hy) (plainElem_bool Try.underlying4 true)
 unfold Oper.wp
 simp [execOp, hop, hm, hx, hv, hrun, Result.andThen]
 refine hK' _ _ (h w' ⟨fun z hz => ?_, ?_⟩ r2)
 ·rcases List.mem_append.1 hz with hz | hz
  ·exact hM.1 z hz
  ·rw [List.mem_singleton.1 hz]; exact hy
 ·rw [List.length_append]
  unfold mapMo.setD at r1 ⊢
  rw [List.foldl_append]
  exact r1
theorem mapMo.get_has {k : Nat} {xs : List S41} {y0 y1 y2 y3 y4 y5 : Int} {r : Bool} (A : mapMo.has k xs y0 y1 y2 y3 y4 y5 = some r) (hgd : o.guard = none) (m x : Operand) (hop : o.op = Op.lookup 48 m x false) {B : Nat} (hm : a.eval m = .map (some B)) (hM : mapMo.MS W B xs) (hx : a.eval x = mapMo.enc ⟨⟨y0, y1, y2, y3⟩, ⟨y4, y5⟩⟩)
  (h : wpList Try.prog ops Q rest (a.put o.dst (.bool r)) W) : wpList Try.prog ops Q (o :: rest) a W := by
 obtain ⟨hy, hr⟩ := mapMo.has_inv A
 subst hr
 exact Kd.event_run hgd (by simp [execOp, hop, hm, hx, mapMo.MS_run hM _ hy, Result.andThen]) h
theorem mapMo.get_call {k : Nat} {xs : List S41} {y0 y1 y2 y3 y4 y5 : Int} {r : Bool} (A : mapMo.has k xs y0 y1 y2 y3 y4 y5 = some r) (hgd : o.guard = none) (m x : Operand) (hop : o.op = Op.lookup 48 m x false) {B : Nat} (hm : a.eval m = .map (some B)) (hM : mapMo.MS W B xs) (hx : a.eval x = mapMo.enc ⟨⟨y0, y1, y2, y3⟩, ⟨y4, y5⟩⟩)
  (h : ∀ w1, Below W.heap.size W w1 → wpList Try.prog ops Q rest (a.put o.dst (.bool r)) w1) : wpList Try.prog ops Q (o :: rest) a W := mapMo.get_has A hgd m x hop hm hM hx (h W (Below.refl _ _))
theorem mapMo.get_step {k : Nat} {xs : List S41} {y0 y1 y2 y3 y4 y5 : Int} {r : Bool} (A : mapMo.has k xs y0 y1 y2 y3 y4 y5 = some r) (hw : Region.wanted o (yielded ops a.tmps) = true) {N : Option Tmp} (hN : o.dst = N) (m x : Operand) (hop : o.op = Op.lookup 48 m x false) {B : Nat} (hm : a.eval m = .map (some B)) (hM : mapMo.MS W B xs) (hx : a.eval x = mapMo.enc ⟨⟨y0, y1, y2, y3⟩, ⟨y4, y5⟩⟩)
  (h : Kc (a.put N (.bool r)) W) : if Region.wanted o (yielded ops a.tmps) = true then Oper.wp Try.prog o a W Kc Q else Kc (a.put N undef) W := by
 obtain ⟨hy, hr⟩ := mapMo.has_inv A
 subst hr
 subst hN
 exact event_step hw (by simp [execOp, hop, hm, hx, mapMo.MS_run hM _ hy, Result.andThen]) h
end
end Go.Proofs.Ytdodghjnlekgeaa.PA
