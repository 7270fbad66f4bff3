/- Walks written by program: each Go function that the law reaches comes to the plain function beside it. -/
import Derived.Test.YtdodghjnlekgeaaPAx0
import Derived.Test.YtdodghjnlekgeaaPAx1
import Derived.Test.YtdodghjnlekgeaaPAx2
namespace Go.Proofs.Ytdodghjnlekgeaa.PA
open Go.RowKit Go.Proofs.YtdodghjnlekgeaaW.PrintWords Go.Proofs.YtdodghjnlekgeaaW.PrintLast Go.Proofs.YtdodghjnlekgeaaW.PrintMore
attribute [local go_sem] max2_int min2_int max_two min_two max_three min_three max_four min_four   -- for this text's walks alone
set_option linter.unusedVariables false
set_option linter.unusedSimpArgs false

/-! ### spec_l01In: function 11 -/
def spec_l01In.f (a0 : Int) (a1 : Int) (a2 : Int) : Option (Bool) := if a0 ≥ a1 then (some (decide (a0 ≤ a2))) else (some false)
set_option maxHeartbeats 8000000 in
set_option maxRecDepth 100000 in
theorem spec_l01In.calls (a0 : Int) (a1 : Int) (a2 : Int) (r : Bool) (w : World) (h : spec_l01In.f a0 a1 a2 = some r) :
  Calls Try.prog 11 #[.int .i64 a0, .int .i64 a1, .int .i64 a2] w fun e w' => e = .returned (.bool r) ∧ Drawn0 w w' := by
 have H : (if a0 ≥ a1 then (some (decide (a0 ≤ a2))) else (some false)) = some r := h
 clear h
 by_cases c4 : a0 ≥ a1
 ·rw [if_pos c4] at H
  have c4b0 : decide (a1 ≤ a0) = true := decide_eq_true c4
  clear c4
  obtain rfl := Option.some.inj H
  go_enter Try.func11, Try.ntmps11
  go_wp2
  go_ret
  exact ⟨by first | rfl | (simp; done) | (simp [*]; done), by repeat (first | exact Drawn0.refl _ | apply Drawn0.step)⟩
 ·rw [if_neg c4] at H
  have c4b0 : decide (a1 ≤ a0) = false := decide_eq_false c4
  clear c4
  obtain rfl := Option.some.inj H
  go_enter Try.func11, Try.ntmps11
  go_wp2
  go_ret
  exact ⟨by first | rfl | (simp; done) | (simp [*]; done), by repeat (first | exact Drawn0.refl _ | apply Drawn0.step)⟩
/-! ### spec_l02Unit: function 29 -/
def spec_l02Unit.f  : Option (Int × Int × Int × Int) := some (1, 0, 0, 1)
set_option maxHeartbeats 8000000 in
set_option maxRecDepth 100000 in
theorem spec_l02Unit.calls  (r1 : Int) (r2 : Int) (r3 : Int) (r4 : Int) (w : World) (h : spec_l02Unit.f  = some (r1, r2, r3, r4)) :
  Calls Try.prog 29 #[] w fun e w' => e = .returned (.agg #[.int .i64 r1, .int .i64 r2, .int .i64 r3, .int .i64 r4]) ∧ Below w.heap.size w w' := by
 have hu37 := Try.underlying37
 have HB := asd (Below.refl w.heap.size w)
 have H : (some (1, 0, 0, 1)) = some (r1, r2, r3, r4) := h
 clear h
 simp only [Option.some.injEq, Prod.mk.injEq] at H
 obtain ⟨rfl, rfl, rfl, rfl⟩ := H
 go_enter Try.func29, Try.ntmps29
 go_wp2_with (first | ((with_reducible refine gd 0 rfl ?_); refine bx #[.int .i64 0, .int .i64 0, .int .i64 0, .int .i64 0] 37 ?_; intro gb157 hg w1 BK157 hb; have GE157 := ngw0 hg HB; replace HB := bS0 HB hb; clear hb hg; obtain ⟨hcz2_0, hcz2_1, hcz2_2, hcz2_3, hfz2_0, hfz2_1, hfz2_2, hfz2_3⟩ := bz4 BK157))
 refine bodyPost_ret (results_cell_row rfl _ _ gb157 37 #[.int .i64 1, .int .i64 0, .int .i64 0, .int .i64 1] (0, 0) _ rfl (bq0 BK157) Try.underlying37 rfl (by kernel_rfl)) rfl ?_
 exact er (bbw1 HB GE157)
/-! ### spec_l06Unit: function 17 -/
def spec_l06Unit.f  : Option (Int × Int × Int × Int × Int × Int) := (spec_l02Unit.f).bind fun bt159 => (some (bt159.1, bt159.2.1, bt159.2.2.1, bt159.2.2.2, 0, 0))
set_option maxHeartbeats 8000000 in
set_option maxRecDepth 100000 in
theorem spec_l06Unit.calls  (r1 : Int) (r2 : Int) (r3 : Int) (r4 : Int) (r5 : Int) (r6 : Int) (w : World) (h : spec_l06Unit.f  = some (r1, r2, r3, r4, r5, r6)) :
  Calls Try.prog 17 #[] w fun e w' => e = .returned (.agg #[.int .i64 r1, .int .i64 r2, .int .i64 r3, .int .i64 r4, .int .i64 r5, .int .i64 r6]) ∧ Below w.heap.size w w' := by
 have hu41 := Try.underlying41
 have HB := asd (Below.refl w.heap.size w)
 have H : ((spec_l02Unit.f).bind fun bt159 => (some (bt159.1, bt159.2.1, bt159.2.2.1, bt159.2.2.2, 0, 0))) = some (r1, r2, r3, r4, r5, r6) := h
 clear h
 obtain ⟨⟨t159, t160, t161, t162⟩, A1, H⟩ := ob H
 try dsimp only at H
 simp only [Option.some.injEq, Prod.mk.injEq] at H
 obtain ⟨rfl, rfl, rfl, rfl, rfl, rfl⟩ := H
 go_enter Try.func17, Try.ntmps17
 go_wp2_with (first | ((with_reducible refine gd 0 rfl ?_); refine bx #[.int .i64 0, .int .i64 0, .int .i64 0, .int .i64 0, .int .i64 0, .int .i64 0] 41 ?_; intro gb158 hg w2 BK158 hb; have GE158 := ngw0 hg HB; replace HB := bS0 HB hb; clear hb hg) | ((with_reducible refine gate_callee (f := 29) rfl ?_); refine gl 1 Try.func29 #[] ?_; (with_reducible refine (spec_l02Unit.calls _ _ _ _ _ A1.out).mono ?_); rintro e w3 ⟨rfl, hb⟩; refine ⟨_, rfl, ?_⟩; replace BK158 := bB BK158 hb; replace HB := bS1 HB GE158 hb; (try clear hb); obtain ⟨hcz4_0, hcz4_1, hcz4_2, hcz4_3, hcz4_4, hcz4_5, hfz4_0, hfz4_1, hfz4_2, hfz4_3, hfz4_4, hfz4_5⟩ := bz6 BK158))
 refine bodyPost_ret (results_cell_row rfl _ _ gb158 41 #[.int .i64 t159, .int .i64 t160, .int .i64 t161, .int .i64 t162, .int .i64 0, .int .i64 0] (0, 0) _ rfl (bq0 BK158) Try.underlying41 rfl (by kernel_rfl)) rfl ?_
 exact er (bbw1 HB GE158)
/-! ### spec_l01Mod: function 43 -/
def spec_l01Mod.f (a0 : Int) (a1 : Int) : Option (Int) := if a1 = 0 then (none) else (if (Int.tmod a0 a1) < 0 then (some (wrap64 ((Int.tmod a0 a1) + a1))) else (some (Int.tmod a0 a1)))
set_option maxHeartbeats 8000000 in
set_option maxRecDepth 100000 in
theorem spec_l01Mod.calls (a0 : Int) (a1 : Int) (r : Int) (w : World) (h : spec_l01Mod.f a0 a1 = some r) :
  Calls Try.prog 43 #[.int .i64 a0, .int .i64 a1] w fun e w' => e = .returned (.int .i64 r) ∧ Drawn0 w w' := by
 have H : (if a1 = 0 then (none) else (if (Int.tmod a0 a1) < 0 then (some (wrap64 ((Int.tmod a0 a1) + a1))) else (some (Int.tmod a0 a1)))) = some r := h
 clear h
 by_cases c3 : a1 = 0
 ·rw [if_pos c3] at H
  exact absurd H (by simp)
 rw [if_neg c3] at H
 have c3b0 : (a1 == 0) = false := beq_eq_false_iff_ne.mpr c3
 have c3b1 : (a1 != 0) = true := bne_iff_ne.mpr c3
 by_cases c4 : (Int.tmod a0 a1) < 0
 rw [if_pos c4] at H
 have c4b0 := decide_eq_true c4
 clear c4
 obtain rfl := Option.some.inj H
 rotate_left
 rw [if_neg c4] at H
 have c4b0 := decide_eq_false c4
 clear c4
 obtain rfl := Option.some.inj H
 rotate_left
 all_goals
  go_enter Try.func43, Try.ntmps43
  go_wp2
  go_ret
  exact ⟨by first | rfl | (simp; done) | (simp [*]; done), by repeat (first | exact Drawn0.refl _ | apply Drawn0.step)⟩
/-! ### spec_l03Reduce: function 30 -/
def spec_l03Reduce.f (a0_0 : Int) (a0_1 : Int) (a0_2 : Int) (a1_0 : Int) (a1_1 : Int) : Option (Int × Int) := (spec_l01Mod.f a1_1 a0_2).bind fun t166 => (if a0_2 = 0 then (none) else ((spec_l01Mod.f (wrap64 (a1_0 - (wrap64 ((wrap64 (Int.tdiv (wrap64 (a1_1 - t166)) a0_2)) * a0_1)))) a0_0).bind fun t167 => (some (t167, t166))))
set_option maxHeartbeats 8000000 in
set_option maxRecDepth 100000 in
theorem spec_l03Reduce.calls (a0_0 : Int) (a0_1 : Int) (a0_2 : Int) (a1_0 : Int) (a1_1 : Int) (r1 : Int) (r2 : Int) (w : World) (h : spec_l03Reduce.f a0_0 a0_1 a0_2 a1_0 a1_1 = some (r1, r2)) :
  Calls Try.prog 30 #[.agg #[.int .i64 a0_0, .int .i64 a0_1, .int .i64 a0_2], .agg #[.int .i64 a1_0, .int .i64 a1_1]] w fun e w' => e = .returned (.agg #[.int .i64 r1, .int .i64 r2]) ∧ Below w.heap.size w w' := by
 have hu23 := Try.underlying23
 have hu39 := Try.underlying39
 have HB := asd (Below.refl w.heap.size w)
 have H : ((spec_l01Mod.f a1_1 a0_2).bind fun t166 => (if a0_2 = 0 then (none) else ((spec_l01Mod.f (wrap64 (a1_0 - (wrap64 ((wrap64 (Int.tdiv (wrap64 (a1_1 - t166)) a0_2)) * a0_1)))) a0_0).bind fun t167 => (some (t167, t166))))) = some (r1, r2) := h
 clear h
 obtain ⟨t166, A3, H⟩ := ob H
 try dsimp only at H
 by_cases c4 : a0_2 = 0
 ·rw [if_pos c4] at H
  exact absurd H (by simp)
 ·rw [if_neg c4] at H
  have c4b0 : (a0_2 == 0) = false := beq_eq_false_iff_ne.mpr c4
  have c4b1 : (a0_2 != 0) = true := bne_iff_ne.mpr c4
  obtain ⟨t167, A5, H⟩ := ob H
  try dsimp only at H
  simp only [Option.some.injEq, Prod.mk.injEq] at H
  obtain ⟨rfl, rfl⟩ := H
  go_enter Try.func30, Try.ntmps30
  go_wp2_with (first | ((with_reducible refine gd 2 rfl ?_); refine bx #[.int .i64 a0_0, .int .i64 a0_1, .int .i64 a0_2] 23 ?_; intro gb163 hg w6 BK163 hb; have GE163 := ngw0 hg HB; replace HB := bS0 HB hb; clear hb hg) | ((with_reducible refine gd 3 rfl ?_); refine bx #[.int .i64 a1_0, .int .i64 a1_1] 39 ?_; intro gb164 hg w7 BK164 hb; have GE164 := ngw1 hg HB GE163; replace HB := bS1 HB GE163 hb; have NB163_164 := nlt hg BK163; have NB164_163 := nsy (nlt hg BK163); replace BK163 := bB BK163 hb; clear hb hg) | ((with_reducible refine gd 4 rfl ?_); refine bx #[.int .i64 0, .int .i64 0] 39 ?_; intro gb165 hg w8 BK165 hb; have GE165 := ngw2 hg HB GE163 GE164; replace HB := bS2 HB GE163 GE164 hb; have NB163_165 := nlt hg BK163; have NB165_163 := nsy (nlt hg BK163); replace BK163 := bB BK163 hb; have NB164_165 := nlt hg BK164; have NB165_164 := nsy (nlt hg BK164); replace BK164 := bB BK164 hb; clear hb hg; have hnb9 := NB164_163.out; have hnc9 := NB163_164.out; have hnb10 := NB164_165.out; have hnc10 := NB165_164.out; obtain ⟨hcz11_0, hcz11_1, hfz11_0, hfz11_1⟩ := bz2 BK164; have hnb12 := NB163_165.out; have hnc12 := NB165_163.out; obtain ⟨hcz13_0, hcz13_1, hcz13_2, hfz13_0, hfz13_1, hfz13_2⟩ := bz3 BK163) | ((with_reducible refine gate_callee (f := 43) rfl ?_); refine gl 11 Try.func43 #[.int .i64 a1_1, .int .i64 a0_2] ?_; (with_reducible refine (spec_l01Mod.calls _ _ _ _ A3.out).mono ?_); rintro e w' ⟨rfl, ⟨nd, rfl⟩⟩; refine ⟨_, rfl, ?_⟩; (try (rw [drewN_self w8]; generalize hq_ : World.drewN w8 _ = w8; have n0_ : Aside0 (w8.heap[gb163]? = some (.cells #[.int .i64 a0_0, .int .i64 a0_1, .int .i64 a0_2] 23 (0, 0))) := ⟨by rw [← hq_]; exact (bkp BK163)⟩; have n1_ : Aside0 (w8.heap[gb164]? = some (.cells #[.int .i64 a1_0, .int .i64 a1_1] 39 (0, 0))) := ⟨by rw [← hq_]; exact (bkp BK164)⟩; have n2_ : Aside0 (w8.heap[gb165]? = some (.cells #[.int .i64 0, .int .i64 0] 39 (0, 0))) := ⟨by rw [← hq_]; exact (bkp BK165)⟩; have n3_ : Aside0 (Below w.heap.size w w8) := ⟨by rw [← hq_]; exact (bbw3 HB GE163 GE164 GE165)⟩; clear BK163 BK164 BK165 HB hq_; have BK163 := n0_; have BK164 := n1_; have BK165 := n2_; have HB := n3_; clear n0_ n1_ n2_ n3_)); have hcz14_0 : w8.cell? ⟨gb164, 0, none⟩ = some (.int .i64 a1_0) := bcl BK164 0; have hcz14_1 : w8.cell? ⟨gb164, 1, none⟩ = some (.int .i64 a1_1) := bcl BK164 1; have hfz14_0 := blk_frozen BK164.out 0; have hfz14_1 := blk_frozen BK164.out 1; have hcz15_0 : w8.cell? ⟨gb163, 0, none⟩ = some (.int .i64 a0_0) := bcl BK163 0; have hcz15_1 : w8.cell? ⟨gb163, 1, none⟩ = some (.int .i64 a0_1) := bcl BK163 1; have hcz15_2 : w8.cell? ⟨gb163, 2, none⟩ = some (.int .i64 a0_2) := bcl BK163 2; have hfz15_0 := blk_frozen BK163.out 0; have hfz15_1 := blk_frozen BK163.out 1; have hfz15_2 := blk_frozen BK163.out 2) | ((with_reducible refine gate_callee (f := 43) rfl ?_); refine gl 28 Try.func43 #[.int .i64 (wrap64 (a1_0 - (wrap64 ((wrap64 (Int.tdiv (wrap64 (a1_1 - t166)) a0_2)) * a0_1)))), .int .i64 a0_0] ?_; (with_reducible refine (spec_l01Mod.calls _ _ _ _ A5.out).mono ?_); rintro e w' ⟨rfl, ⟨nd, rfl⟩⟩; refine ⟨_, rfl, ?_⟩; (try (rw [drewN_self w8]; generalize hq_ : World.drewN w8 _ = w8; have n0_ : Aside0 (w8.heap[gb163]? = some (.cells #[.int .i64 a0_0, .int .i64 a0_1, .int .i64 a0_2] 23 (0, 0))) := ⟨by rw [← hq_]; exact (bkp BK163)⟩; have n1_ : Aside0 (w8.heap[gb164]? = some (.cells #[.int .i64 a1_0, .int .i64 a1_1] 39 (0, 0))) := ⟨by rw [← hq_]; exact (bkp BK164)⟩; have n2_ : Aside0 (w8.heap[gb165]? = some (.cells #[.int .i64 0, .int .i64 0] 39 (0, 0))) := ⟨by rw [← hq_]; exact (bkp BK165)⟩; have n3_ : Aside0 (Below w.heap.size w w8) := ⟨by rw [← hq_]; exact (bbw3 HB GE163 GE164 GE165)⟩; clear BK163 BK164 BK165 HB hq_; have BK163 := n0_; have BK164 := n1_; have BK165 := n2_; have HB := n3_; clear n0_ n1_ n2_ n3_)); have hcz16_0 : w8.cell? ⟨gb165, 0, none⟩ = some (.int .i64 0) := bcl BK165 0; have hcz16_1 : w8.cell? ⟨gb165, 1, none⟩ = some (.int .i64 0) := bcl BK165 1; have hfz16_0 := blk_frozen BK165.out 0; have hfz16_1 := blk_frozen BK165.out 1))
  refine bodyPost_ret (results_cell_row rfl _ _ gb165 39 #[.int .i64 t167, .int .i64 t166] (0, 0) _ rfl (bq0 BK165) Try.underlying39 rfl (by kernel_rfl)) rfl ?_
  exact er (bbw3 HB GE163 GE164 GE165)
/-! ### spec_l06Reduce: function 18 -/
def spec_l06Reduce.f (a0_0 : Int) (a0_1 : Int) (a0_2 : Int) (a1_0 : Int) (a1_1 : Int) (a1_2 : Int) (a1_3 : Int) (a1_4 : Int) (a1_5 : Int) : Option (Int × Int × Int × Int × Int × Int) := (spec_l03Reduce.f a0_0 a0_1 a0_2 a1_4 a1_5).bind fun bt171 => (some (a1_0, a1_1, a1_2, a1_3, bt171.1, bt171.2))
def spec_l06Reduce.T1 : Bool × List (List Nat × List Nat) := (true, [([], []), ([0], [0]), ([], []), ([], []), ([3], [3]), ([2, 4], [2, 4]), ([1, 5], [1, 5]), ([6, 5, 0, 1, 2, 3, 4, 5, 6], [6])])
def spec_l06Reduce.B1 : List Nat := [0, 1, 0, 0, 8, 28, 63, 127]
theorem spec_l06Reduce.tab1 : rtab .any (opsOf Try.f18 1) = spec_l06Reduce.T1 := by kernel_rfl
theorem spec_l06Reduce.bits1 : waitsOk spec_l06Reduce.T1.2 spec_l06Reduce.B1 = true := by kernel_rfl
set_option maxHeartbeats 8000000 in
set_option maxRecDepth 100000 in
theorem spec_l06Reduce.calls (a0_0 : Int) (a0_1 : Int) (a0_2 : Int) (a1_0 : Int) (a1_1 : Int) (a1_2 : Int) (a1_3 : Int) (a1_4 : Int) (a1_5 : Int) (r1 : Int) (r2 : Int) (r3 : Int) (r4 : Int) (r5 : Int) (r6 : Int) (w : World) (h : spec_l06Reduce.f a0_0 a0_1 a0_2 a1_0 a1_1 a1_2 a1_3 a1_4 a1_5 = some (r1, r2, r3, r4, r5, r6)) :
  Calls Try.prog 18 #[.agg #[.int .i64 a0_0, .int .i64 a0_1, .int .i64 a0_2], .agg #[.int .i64 a1_0, .int .i64 a1_1, .int .i64 a1_2, .int .i64 a1_3, .int .i64 a1_4, .int .i64 a1_5]] w fun e w' => e = .returned (.agg #[.int .i64 r1, .int .i64 r2, .int .i64 r3, .int .i64 r4, .int .i64 r5, .int .i64 r6]) ∧ Below w.heap.size w w' := by
 have hu23 := Try.underlying23
 have hu41 := Try.underlying41
 have hu37 := Try.underlying37
 have hu39 := Try.underlying39
 have HB := asd (Below.refl w.heap.size w)
 have H : ((spec_l03Reduce.f a0_0 a0_1 a0_2 a1_4 a1_5).bind fun bt171 => (some (a1_0, a1_1, a1_2, a1_3, bt171.1, bt171.2))) = some (r1, r2, r3, r4, r5, r6) := h
 clear h
 obtain ⟨⟨t171, t172⟩, A3, H⟩ := ob H
 try dsimp only at H
 simp only [Option.some.injEq, Prod.mk.injEq] at H
 obtain ⟨rfl, rfl, rfl, rfl, rfl, rfl⟩ := H
 go_enter Try.func18, Try.ntmps18
 try go_wp2_with (first | ((with_reducible refine gd 2 rfl ?_); refine bx #[.int .i64 a0_0, .int .i64 a0_1, .int .i64 a0_2] 23 ?_; intro gb168 hg w4 BK168 hb; have GE168 := ngw0 hg HB; replace HB := bS0 HB hb; clear hb hg) | ((with_reducible refine gd 3 rfl ?_); refine bx #[.int .i64 a1_0, .int .i64 a1_1, .int .i64 a1_2, .int .i64 a1_3, .int .i64 a1_4, .int .i64 a1_5] 41 ?_; intro gb169 hg w5 BK169 hb; have GE169 := ngw1 hg HB GE168; replace HB := bS1 HB GE168 hb; have NB168_169 := nlt hg BK168; have NB169_168 := nsy (nlt hg BK168); replace BK168 := bB BK168 hb; clear hb hg) | ((with_reducible refine gd 4 rfl ?_); refine bx #[.int .i64 0, .int .i64 0, .int .i64 0, .int .i64 0, .int .i64 0, .int .i64 0] 41 ?_; intro gb170 hg w6 BK170 hb; have GE170 := ngw2 hg HB GE168 GE169; replace HB := bS2 HB GE168 GE169 hb; have NB168_170 := nlt hg BK168; have NB170_168 := nsy (nlt hg BK168); replace BK168 := bB BK168 hb; have NB169_170 := nlt hg BK169; have NB170_169 := nsy (nlt hg BK169); replace BK169 := bB BK169 hb; clear hb hg))
 replace BK168 := asd (blk_drew BK168.out)
 replace BK169 := asd (blk_drew BK169.out)
 replace BK170 := asd (blk_drew BK170.out)
 replace HB := asd (below_drew1 HB.out)
 refine sh 8 (cb6 BK169 (eb3 BK168)) (fun hHeld => ?_); refine with_tabW spec_l06Reduce.tab1 spec_l06Reduce.bits1 (fun HT_ HW_ => ?_)
 generalize w6.drew = w7 at BK168 BK169 BK170 HB hHeld ⊢
 refine pu 0 (some 5) (bT 8 1) HT_ ?_
 refine pu 3 (some 8) (bs 8 9) HT_ ?_
 refine ta 1 (some 6) (bs 8 11) HT_ HW_ hHeld ?_
 refine ta 2 (some 7) (bT 8 4) HT_ HW_ hHeld ?_
 refine ta 4 (some 9) (bT 8 5) HT_ HW_ hHeld ?_
 refine ro 5 (some 10) (bT 8 6) HT_ (fun K hK => ?_)
 refine gs Try.func30 #[.agg #[.int .i64 a0_0, .int .i64 a0_1, .int .i64 a0_2], .agg #[.int .i64 a1_4, .int .i64 a1_5]] ?_
 with_reducible refine (spec_l03Reduce.calls _ _ _ _ _ _ _ _ A3.out).mono ?_
 rintro e w8 ⟨rfl, hb⟩
 refine ⟨_, rfl, ?_⟩
 replace BK168 := bB BK168 hb
 replace BK169 := bB BK169 hb
 replace BK170 := bB BK170 hb
 replace HB := bS3 HB GE168 GE169 GE170 hb
 (try clear hb)
 (try clear hb2)
 (try clear hk)
 (try clear hi)
 refine hK.out _ _ (cb6 BK169 (eb3 BK168)).out (fun hHeld => ?_)
 clear hK K
 refine norm_ (a' := ?_) ?_ ?_
 rotate_left
 ·show Act.put _ (some 10) _ = _
  simp only [Act.put, sA, sB, sC, i64_w, i32_w]
  rfl
 refine pu 6 (some 11) (bT 8 7) HT_ ?_
 refine ro 7 (none) (bT 8 8) HT_ (fun K hK => ?_)
 have hs9 : w8.cell? ⟨gb170, 0, none⟩ = some (.int .i64 0) := bcl BK170 0
 have hfs9 := blk_frozen BK170.out 0
 have hns9_0 := NB168_170.out
 have hns9_1 := NB169_170.out
 have hms9_0 := NB170_168.out
 have hms9_1 := NB170_169.out
 have hs10 : w8.cell? ⟨gb170, 1, none⟩ = some (.int .i64 0) := bcl BK170 1
 have hfs10 := blk_frozen BK170.out 1
 have hns10_0 := NB168_170.out
 have hns10_1 := NB169_170.out
 have hms10_0 := NB170_168.out
 have hms10_1 := NB170_169.out
 have hs11 : w8.cell? ⟨gb170, 2, none⟩ = some (.int .i64 0) := bcl BK170 2
 have hfs11 := blk_frozen BK170.out 2
 have hns11_0 := NB168_170.out
 have hns11_1 := NB169_170.out
 have hms11_0 := NB170_168.out
 have hms11_1 := NB170_169.out
 have hs12 : w8.cell? ⟨gb170, 3, none⟩ = some (.int .i64 0) := bcl BK170 3
 have hfs12 := blk_frozen BK170.out 3
 have hns12_0 := NB168_170.out
 have hns12_1 := NB169_170.out
 have hms12_0 := NB170_168.out
 have hms12_1 := NB170_169.out
 have hs13 : w8.cell? ⟨gb170, 4, none⟩ = some (.int .i64 0) := bcl BK170 4
 have hfs13 := blk_frozen BK170.out 4
 have hns13_0 := NB168_170.out
 have hns13_1 := NB169_170.out
 have hms13_0 := NB170_168.out
 have hms13_1 := NB170_169.out
 have hs14 : w8.cell? ⟨gb170, 5, none⟩ = some (.int .i64 0) := bcl BK170 5
 have hfs14 := blk_frozen BK170.out 5
 have hns14_0 := NB168_170.out
 have hns14_1 := NB169_170.out
 have hms14_0 := NB170_168.out
 have hms14_1 := NB170_169.out
 refine skip_ (w1 := ?_) (by rfl) rfl ?_ ?_
 rotate_left
 ·go_simp
  rfl
 refine hK.out _ _ ⟨(cf6 NB169_170 (hHeld.1)), (cf6 NB169_170 (hHeld.2.1)), (cf6 NB169_170 (hHeld.2.2.1)), (cf6 NB169_170 (hHeld.2.2.2.1)), (cf6 NB169_170 (hHeld.2.2.2.2.1)), (cf6 NB169_170 (hHeld.2.2.2.2.2.1)), (cf6 NB168_170 (hHeld.2.2.2.2.2.2.1)), (cf6 NB168_170 (hHeld.2.2.2.2.2.2.2.1)), (cf6 NB168_170 (hHeld.2.2.2.2.2.2.2.2))⟩ (fun hHeld => ?_)
 clear hK K
 refine done_ (done_of HT_.out (by kernel_rfl)) ?_
 try go_wp2
 refine bodyPost_ret (results_cell_row rfl _ _ gb170 41 #[.int .i64 a1_0, .int .i64 a1_1, .int .i64 a1_2, .int .i64 a1_3, .int .i64 t171, .int .i64 t172] (0, 0) _ rfl (bq0 BK170) Try.underlying41 rfl (by kernel_rfl)) rfl ?_
 exact er (bbw3 HB GE168 GE169 GE170)
/-! ### spec_l02Multiply: function 31 -/
def spec_l02Multiply.f (a0_0 : Int) (a0_1 : Int) (a0_2 : Int) (a0_3 : Int) (a1_0 : Int) (a1_1 : Int) (a1_2 : Int) (a1_3 : Int) : Option (Int × Int × Int × Int) := some (wrap64 ((wrap64 (a0_0 * a1_0)) + (wrap64 (a0_1 * a1_2))), wrap64 ((wrap64 (a0_0 * a1_1)) + (wrap64 (a0_1 * a1_3))), wrap64 ((wrap64 (a0_2 * a1_0)) + (wrap64 (a0_3 * a1_2))), wrap64 ((wrap64 (a0_2 * a1_1)) + (wrap64 (a0_3 * a1_3))))
set_option maxHeartbeats 8000000 in
set_option maxRecDepth 100000 in
theorem spec_l02Multiply.calls (a0_0 : Int) (a0_1 : Int) (a0_2 : Int) (a0_3 : Int) (a1_0 : Int) (a1_1 : Int) (a1_2 : Int) (a1_3 : Int) (r1 : Int) (r2 : Int) (r3 : Int) (r4 : Int) (w : World) (h : spec_l02Multiply.f a0_0 a0_1 a0_2 a0_3 a1_0 a1_1 a1_2 a1_3 = some (r1, r2, r3, r4)) :
  Calls Try.prog 31 #[.agg #[.int .i64 a0_0, .int .i64 a0_1, .int .i64 a0_2, .int .i64 a0_3], .agg #[.int .i64 a1_0, .int .i64 a1_1, .int .i64 a1_2, .int .i64 a1_3]] w fun e w' => e = .returned (.agg #[.int .i64 r1, .int .i64 r2, .int .i64 r3, .int .i64 r4]) ∧ Below w.heap.size w w' := by
 have hu37 := Try.underlying37
 have HB := asd (Below.refl w.heap.size w)
 have H : (some (wrap64 ((wrap64 (a0_0 * a1_0)) + (wrap64 (a0_1 * a1_2))), wrap64 ((wrap64 (a0_0 * a1_1)) + (wrap64 (a0_1 * a1_3))), wrap64 ((wrap64 (a0_2 * a1_0)) + (wrap64 (a0_3 * a1_2))), wrap64 ((wrap64 (a0_2 * a1_1)) + (wrap64 (a0_3 * a1_3))))) = some (r1, r2, r3, r4) := h
 clear h
 simp only [Option.some.injEq, Prod.mk.injEq] at H
 obtain ⟨rfl, rfl, rfl, rfl⟩ := H
 go_enter Try.func31, Try.ntmps31
 go_wp2_with (first | ((with_reducible refine gd 2 rfl ?_); refine bx #[.int .i64 a0_0, .int .i64 a0_1, .int .i64 a0_2, .int .i64 a0_3] 37 ?_; intro gb173 hg w3 BK173 hb; have GE173 := ngw0 hg HB; replace HB := bS0 HB hb; clear hb hg) | ((with_reducible refine gd 3 rfl ?_); refine bx #[.int .i64 a1_0, .int .i64 a1_1, .int .i64 a1_2, .int .i64 a1_3] 37 ?_; intro gb174 hg w4 BK174 hb; have GE174 := ngw1 hg HB GE173; replace HB := bS1 HB GE173 hb; have NB173_174 := nlt hg BK173; have NB174_173 := nsy (nlt hg BK173); replace BK173 := bB BK173 hb; clear hb hg) | ((with_reducible refine gd 4 rfl ?_); refine bx #[.int .i64 0, .int .i64 0, .int .i64 0, .int .i64 0] 37 ?_; intro gb175 hg w5 BK175 hb; have GE175 := ngw2 hg HB GE173 GE174; replace HB := bS2 HB GE173 GE174 hb; have NB173_175 := nlt hg BK173; have NB175_173 := nsy (nlt hg BK173); replace BK173 := bB BK173 hb; have NB174_175 := nlt hg BK174; have NB175_174 := nsy (nlt hg BK174); replace BK174 := bB BK174 hb; clear hb hg; have hnb6 := NB173_174.out; have hnc6 := NB174_173.out; have hnb7 := NB173_175.out; have hnc7 := NB175_173.out; obtain ⟨hcz8_0, hcz8_1, hcz8_2, hcz8_3, hfz8_0, hfz8_1, hfz8_2, hfz8_3⟩ := bz4 BK173; have hnb9 := NB174_175.out; have hnc9 := NB175_174.out; obtain ⟨hcz10_0, hcz10_1, hcz10_2, hcz10_3, hfz10_0, hfz10_1, hfz10_2, hfz10_3⟩ := bz4 BK174; obtain ⟨hcz11_0, hcz11_1, hcz11_2, hcz11_3, hfz11_0, hfz11_1, hfz11_2, hfz11_3⟩ := bz4 BK175))
 refine bodyPost_ret (results_cell_row rfl _ _ gb175 37 #[.int .i64 (wrap64 ((wrap64 (a0_0 * a1_0)) + (wrap64 (a0_1 * a1_2)))), .int .i64 (wrap64 ((wrap64 (a0_0 * a1_1)) + (wrap64 (a0_1 * a1_3)))), .int .i64 (wrap64 ((wrap64 (a0_2 * a1_0)) + (wrap64 (a0_3 * a1_2)))), .int .i64 (wrap64 ((wrap64 (a0_2 * a1_1)) + (wrap64 (a0_3 * a1_3))))] (0, 0) _ rfl (bq0 BK175) Try.underlying37 rfl (by kernel_rfl)) rfl ?_
 exact er (bbw3 HB GE173 GE174 GE175)
/-! ### spec_l01Add: function 32 -/
def spec_l01Add.f (a0_0 : Int) (a0_1 : Int) (a1_0 : Int) (a1_1 : Int) : Option (Int × Int) := some (wrap64 (a0_0 + a1_0), wrap64 (a0_1 + a1_1))
set_option maxHeartbeats 8000000 in
set_option maxRecDepth 100000 in
theorem spec_l01Add.calls (a0_0 : Int) (a0_1 : Int) (a1_0 : Int) (a1_1 : Int) (r1 : Int) (r2 : Int) (w : World) (h : spec_l01Add.f a0_0 a0_1 a1_0 a1_1 = some (r1, r2)) :
  Calls Try.prog 32 #[.agg #[.int .i64 a0_0, .int .i64 a0_1], .agg #[.int .i64 a1_0, .int .i64 a1_1]] w fun e w' => e = .returned (.agg #[.int .i64 r1, .int .i64 r2]) ∧ Below w.heap.size w w' := by
 have hu39 := Try.underlying39
 have HB := asd (Below.refl w.heap.size w)
 have H : (some (wrap64 (a0_0 + a1_0), wrap64 (a0_1 + a1_1))) = some (r1, r2) := h
 clear h
 simp only [Option.some.injEq, Prod.mk.injEq] at H
 obtain ⟨rfl, rfl⟩ := H
 go_enter Try.func32, Try.ntmps32
 go_wp2_with (first | ((with_reducible refine gd 2 rfl ?_); refine bx #[.int .i64 a0_0, .int .i64 a0_1] 39 ?_; intro gb176 hg w3 BK176 hb; have GE176 := ngw0 hg HB; replace HB := bS0 HB hb; clear hb hg) | ((with_reducible refine gd 3 rfl ?_); refine bx #[.int .i64 a1_0, .int .i64 a1_1] 39 ?_; intro gb177 hg w4 BK177 hb; have GE177 := ngw1 hg HB GE176; replace HB := bS1 HB GE176 hb; have NB176_177 := nlt hg BK176; have NB177_176 := nsy (nlt hg BK176); replace BK176 := bB BK176 hb; clear hb hg) | ((with_reducible refine gd 4 rfl ?_); refine bx #[.int .i64 0, .int .i64 0] 39 ?_; intro gb178 hg w5 BK178 hb; have GE178 := ngw2 hg HB GE176 GE177; replace HB := bS2 HB GE176 GE177 hb; have NB176_178 := nlt hg BK176; have NB178_176 := nsy (nlt hg BK176); replace BK176 := bB BK176 hb; have NB177_178 := nlt hg BK177; have NB178_177 := nsy (nlt hg BK177); replace BK177 := bB BK177 hb; clear hb hg; have hnb6 := NB176_177.out; have hnc6 := NB177_176.out; have hnb7 := NB176_178.out; have hnc7 := NB178_176.out; obtain ⟨hcz8_0, hcz8_1, hfz8_0, hfz8_1⟩ := bz2 BK176; have hnb9 := NB177_178.out; have hnc9 := NB178_177.out; obtain ⟨hcz10_0, hcz10_1, hfz10_0, hfz10_1⟩ := bz2 BK177; obtain ⟨hcz11_0, hcz11_1, hfz11_0, hfz11_1⟩ := bz2 BK178))
 refine bodyPost_ret (results_cell_row rfl _ _ gb178 39 #[.int .i64 (wrap64 (a0_0 + a1_0)), .int .i64 (wrap64 (a0_1 + a1_1))] (0, 0) _ rfl (bq0 BK178) Try.underlying39 rfl (by kernel_rfl)) rfl ?_
 exact er (bbw3 HB GE176 GE177 GE178)
/-! ### spec_l02Apply: function 33 -/
def spec_l02Apply.f (a0_0 : Int) (a0_1 : Int) (a0_2 : Int) (a0_3 : Int) (a1_0 : Int) (a1_1 : Int) : Option (Int × Int) := some (wrap64 ((wrap64 (a0_0 * a1_0)) + (wrap64 (a0_1 * a1_1))), wrap64 ((wrap64 (a0_2 * a1_0)) + (wrap64 (a0_3 * a1_1))))
set_option maxHeartbeats 8000000 in
set_option maxRecDepth 100000 in
theorem spec_l02Apply.calls (a0_0 : Int) (a0_1 : Int) (a0_2 : Int) (a0_3 : Int) (a1_0 : Int) (a1_1 : Int) (r1 : Int) (r2 : Int) (w : World) (h : spec_l02Apply.f a0_0 a0_1 a0_2 a0_3 a1_0 a1_1 = some (r1, r2)) :
  Calls Try.prog 33 #[.agg #[.int .i64 a0_0, .int .i64 a0_1, .int .i64 a0_2, .int .i64 a0_3], .agg #[.int .i64 a1_0, .int .i64 a1_1]] w fun e w' => e = .returned (.agg #[.int .i64 r1, .int .i64 r2]) ∧ Below w.heap.size w w' := by
 have hu37 := Try.underlying37
 have hu39 := Try.underlying39
 have HB := asd (Below.refl w.heap.size w)
 have H : (some (wrap64 ((wrap64 (a0_0 * a1_0)) + (wrap64 (a0_1 * a1_1))), wrap64 ((wrap64 (a0_2 * a1_0)) + (wrap64 (a0_3 * a1_1))))) = some (r1, r2) := h
 clear h
 simp only [Option.some.injEq, Prod.mk.injEq] at H
 obtain ⟨rfl, rfl⟩ := H
 go_enter Try.func33, Try.ntmps33
 go_wp2_with (first | ((with_reducible refine gd 2 rfl ?_); refine bx #[.int .i64 a0_0, .int .i64 a0_1, .int .i64 a0_2, .int .i64 a0_3] 37 ?_; intro gb179 hg w3 BK179 hb; have GE179 := ngw0 hg HB; replace HB := bS0 HB hb; clear hb hg) | ((with_reducible refine gd 3 rfl ?_); refine bx #[.int .i64 a1_0, .int .i64 a1_1] 39 ?_; intro gb180 hg w4 BK180 hb; have GE180 := ngw1 hg HB GE179; replace HB := bS1 HB GE179 hb; have NB179_180 := nlt hg BK179; have NB180_179 := nsy (nlt hg BK179); replace BK179 := bB BK179 hb; clear hb hg) | ((with_reducible refine gd 4 rfl ?_); refine bx #[.int .i64 0, .int .i64 0] 39 ?_; intro gb181 hg w5 BK181 hb; have GE181 := ngw2 hg HB GE179 GE180; replace HB := bS2 HB GE179 GE180 hb; have NB179_181 := nlt hg BK179; have NB181_179 := nsy (nlt hg BK179); replace BK179 := bB BK179 hb; have NB180_181 := nlt hg BK180; have NB181_180 := nsy (nlt hg BK180); replace BK180 := bB BK180 hb; clear hb hg; have hnb6 := NB179_180.out; have hnc6 := NB180_179.out; have hnb7 := NB179_181.out; have hnc7 := NB181_179.out; obtain ⟨hcz8_0, hcz8_1, hcz8_2, hcz8_3, hfz8_0, hfz8_1, hfz8_2, hfz8_3⟩ := bz4 BK179; have hnb9 := NB180_181.out; have hnc9 := NB181_180.out; obtain ⟨hcz10_0, hcz10_1, hfz10_0, hfz10_1⟩ := bz2 BK180; obtain ⟨hcz11_0, hcz11_1, hfz11_0, hfz11_1⟩ := bz2 BK181))
 refine bodyPost_ret (results_cell_row rfl _ _ gb181 39 #[.int .i64 (wrap64 ((wrap64 (a0_0 * a1_0)) + (wrap64 (a0_1 * a1_1)))), .int .i64 (wrap64 ((wrap64 (a0_2 * a1_0)) + (wrap64 (a0_3 * a1_1))))] (0, 0) _ rfl (bq0 BK181) Try.underlying39 rfl (by kernel_rfl)) rfl ?_
 exact er (bbw3 HB GE179 GE180 GE181)
/-! ### spec_l05Compose: function 19 -/
def spec_l05Compose.f (a0_0 : Int) (a0_1 : Int) (a0_2 : Int) (a0_3 : Int) (a0_4 : Int) (a0_5 : Int) (a1_0 : Int) (a1_1 : Int) (a1_2 : Int) (a1_3 : Int) (a1_4 : Int) (a1_5 : Int) : Option (Int × Int × Int × Int × Int × Int) := (spec_l02Multiply.f a0_0 a0_1 a0_2 a0_3 a1_0 a1_1 a1_2 a1_3).bind fun bt185 => ((spec_l02Apply.f a0_0 a0_1 a0_2 a0_3 a1_4 a1_5).bind fun bt189 => ((spec_l01Add.f bt189.1 bt189.2 a0_4 a0_5).bind fun bt191 => (some (bt185.1, bt185.2.1, bt185.2.2.1, bt185.2.2.2, bt191.1, bt191.2))))
def spec_l05Compose.T1 : Bool × List (List Nat × List Nat) := (true, [([], []), ([0], [0]), ([], []), ([2], [2]), ([1, 3], [1, 3]), ([], []), ([5], [5]), ([], []), ([7], [7]), ([6, 8, 4], [6, 8]), ([], []), ([10], [10]), ([9, 11, 9], [9, 11]), ([4, 12], [4, 12]), ([13, 12, 0, 1, 2, 3, 4, 5, 6, 7, 8, 9, 10, 11, 12, 13], [13])])
def spec_l05Compose.B1 : List Nat := [0, 1, 0, 4, 15, 0, 32, 0, 128, 511, 0, 1024, 4095, 8191, 16383]
theorem spec_l05Compose.tab1 : rtab .any (opsOf Try.f19 1) = spec_l05Compose.T1 := by kernel_rfl
theorem spec_l05Compose.bits1 : waitsOk spec_l05Compose.T1.2 spec_l05Compose.B1 = true := by kernel_rfl
set_option maxHeartbeats 8000000 in
set_option maxRecDepth 100000 in
theorem spec_l05Compose.calls (a0_0 : Int) (a0_1 : Int) (a0_2 : Int) (a0_3 : Int) (a0_4 : Int) (a0_5 : Int) (a1_0 : Int) (a1_1 : Int) (a1_2 : Int) (a1_3 : Int) (a1_4 : Int) (a1_5 : Int) (r1 : Int) (r2 : Int) (r3 : Int) (r4 : Int) (r5 : Int) (r6 : Int) (w : World) (h : spec_l05Compose.f a0_0 a0_1 a0_2 a0_3 a0_4 a0_5 a1_0 a1_1 a1_2 a1_3 a1_4 a1_5 = some (r1, r2, r3, r4, r5, r6)) :
  Calls Try.prog 19 #[.agg #[.int .i64 a0_0, .int .i64 a0_1, .int .i64 a0_2, .int .i64 a0_3, .int .i64 a0_4, .int .i64 a0_5], .agg #[.int .i64 a1_0, .int .i64 a1_1, .int .i64 a1_2, .int .i64 a1_3, .int .i64 a1_4, .int .i64 a1_5]] w fun e w' => e = .returned (.agg #[.int .i64 r1, .int .i64 r2, .int .i64 r3, .int .i64 r4, .int .i64 r5, .int .i64 r6]) ∧ Below w.heap.size w w' := by
 have hu41 := Try.underlying41
 have hu37 := Try.underlying37
 have hu39 := Try.underlying39
 have HB := asd (Below.refl w.heap.size w)
 have H : ((spec_l02Multiply.f a0_0 a0_1 a0_2 a0_3 a1_0 a1_1 a1_2 a1_3).bind fun bt185 => ((spec_l02Apply.f a0_0 a0_1 a0_2 a0_3 a1_4 a1_5).bind fun bt189 => ((spec_l01Add.f bt189.1 bt189.2 a0_4 a0_5).bind fun bt191 => (some (bt185.1, bt185.2.1, bt185.2.2.1, bt185.2.2.2, bt191.1, bt191.2))))) = some (r1, r2, r3, r4, r5, r6) := h
 clear h
 obtain ⟨⟨t185, t186, t187, t188⟩, A3, H⟩ := ob H
 try dsimp only at H
 obtain ⟨⟨t189, t190⟩, A4, H⟩ := ob H
 try dsimp only at H
 obtain ⟨⟨t191, t192⟩, A5, H⟩ := ob H
 try dsimp only at H
 simp only [Option.some.injEq, Prod.mk.injEq] at H
 obtain ⟨rfl, rfl, rfl, rfl, rfl, rfl⟩ := H
 go_enter Try.func19, Try.ntmps19
 try go_wp2_with (first | ((with_reducible refine gd 2 rfl ?_); refine bx #[.int .i64 a0_0, .int .i64 a0_1, .int .i64 a0_2, .int .i64 a0_3, .int .i64 a0_4, .int .i64 a0_5] 41 ?_; intro gb182 hg w6 BK182 hb; have GE182 := ngw0 hg HB; replace HB := bS0 HB hb; clear hb hg) | ((with_reducible refine gd 3 rfl ?_); refine bx #[.int .i64 a1_0, .int .i64 a1_1, .int .i64 a1_2, .int .i64 a1_3, .int .i64 a1_4, .int .i64 a1_5] 41 ?_; intro gb183 hg w7 BK183 hb; have GE183 := ngw1 hg HB GE182; replace HB := bS1 HB GE182 hb; have NB182_183 := nlt hg BK182; have NB183_182 := nsy (nlt hg BK182); replace BK182 := bB BK182 hb; clear hb hg) | ((with_reducible refine gd 4 rfl ?_); refine bx #[.int .i64 0, .int .i64 0, .int .i64 0, .int .i64 0, .int .i64 0, .int .i64 0] 41 ?_; intro gb184 hg w8 BK184 hb; have GE184 := ngw2 hg HB GE182 GE183; replace HB := bS2 HB GE182 GE183 hb; have NB182_184 := nlt hg BK182; have NB184_182 := nsy (nlt hg BK182); replace BK182 := bB BK182 hb; have NB183_184 := nlt hg BK183; have NB184_183 := nsy (nlt hg BK183); replace BK183 := bB BK183 hb; clear hb hg))
 replace BK182 := asd (blk_drew BK182.out)
 replace BK183 := asd (blk_drew BK183.out)
 replace BK184 := asd (blk_drew BK184.out)
 replace HB := asd (below_drew1 HB.out)
 refine sh 15 (cb6 BK182 (eb6 BK183)) (fun hHeld => ?_); refine with_tabW spec_l05Compose.tab1 spec_l05Compose.bits1 (fun HT_ HW_ => ?_)
 generalize w8.drew = w9 at BK182 BK183 BK184 HB hHeld ⊢
 refine pu 0 (some 5) (bT 15 1) HT_ ?_
 refine pu 2 (some 7) (bs 15 5) HT_ ?_
 refine pu 5 (some 10) (bs 15 37) HT_ ?_
 refine pu 7 (some 12) (bs 15 165) HT_ ?_
 refine pu 10 (some 15) (bs 15 1189) HT_ ?_
 refine ta 1 (some 6) (bs 15 1191) HT_ HW_ hHeld ?_
 refine ta 3 (some 8) (bs 15 1199) HT_ HW_ hHeld ?_
 refine ta 6 (some 11) (bs 15 1263) HT_ HW_ hHeld ?_
 refine ta 8 (some 13) (bs 15 1519) HT_ HW_ hHeld ?_
 refine ta 11 (some 16) (bs 15 3567) HT_ HW_ hHeld ?_
 refine ro 4 (some 9) (bs 15 3583) HT_ (fun K hK => ?_)
 refine gs Try.func31 #[.agg #[.int .i64 a0_0, .int .i64 a0_1, .int .i64 a0_2, .int .i64 a0_3], .agg #[.int .i64 a1_0, .int .i64 a1_1, .int .i64 a1_2, .int .i64 a1_3]] ?_
 with_reducible refine (spec_l02Multiply.calls _ _ _ _ _ _ _ _ _ _ _ _ _ A3.out).mono ?_
 rintro e w10 ⟨rfl, hb⟩
 refine ⟨_, rfl, ?_⟩
 replace BK182 := bB BK182 hb
 replace BK183 := bB BK183 hb
 replace BK184 := bB BK184 hb
 replace HB := bS3 HB GE182 GE183 GE184 hb
 (try clear hb)
 (try clear hb2)
 (try clear hk)
 (try clear hi)
 refine hK.out _ _ (cb6 BK182 (eb6 BK183)).out (fun hHeld => ?_)
 clear hK K
 refine norm_ (a' := ?_) ?_ ?_
 rotate_left
 ·show Act.put _ (some 9) _ = _
  simp only [Act.put, sA, sB, sC, i64_w, i32_w]
  rfl
 refine ro 9 (some 14) (bT 15 12) HT_ (fun K hK => ?_)
 refine gs Try.func33 #[.agg #[.int .i64 a0_0, .int .i64 a0_1, .int .i64 a0_2, .int .i64 a0_3], .agg #[.int .i64 a1_4, .int .i64 a1_5]] ?_
 with_reducible refine (spec_l02Apply.calls _ _ _ _ _ _ _ _ _ A4.out).mono ?_
 rintro e w11 ⟨rfl, hb⟩
 refine ⟨_, rfl, ?_⟩
 replace BK182 := bB BK182 hb
 replace BK183 := bB BK183 hb
 replace BK184 := bB BK184 hb
 replace HB := bS3 HB GE182 GE183 GE184 hb
 (try clear hb)
 (try clear hb2)
 (try clear hk)
 (try clear hi)
 refine hK.out _ _ (cb6 BK182 (eb6 BK183)).out (fun hHeld => ?_)
 clear hK K
 refine norm_ (a' := ?_) ?_ ?_
 rotate_left
 ·show Act.put _ (some 14) _ = _
  simp only [Act.put, sA, sB, sC, i64_w, i32_w]
  rfl
 refine ro 12 (some 17) (bT 15 13) HT_ (fun K hK => ?_)
 refine gs Try.func32 #[.agg #[.int .i64 t189, .int .i64 t190], .agg #[.int .i64 a0_4, .int .i64 a0_5]] ?_
 with_reducible refine (spec_l01Add.calls _ _ _ _ _ _ _ A5.out).mono ?_
 rintro e w12 ⟨rfl, hb⟩
 refine ⟨_, rfl, ?_⟩
 replace BK182 := bB BK182 hb
 replace BK183 := bB BK183 hb
 replace BK184 := bB BK184 hb
 replace HB := bS3 HB GE182 GE183 GE184 hb
 (try clear hb)
 (try clear hb2)
 (try clear hk)
 (try clear hi)
 refine hK.out _ _ (cb6 BK182 (eb6 BK183)).out (fun hHeld => ?_)
 clear hK K
 refine norm_ (a' := ?_) ?_ ?_
 rotate_left
 ·show Act.put _ (some 17) _ = _
  simp only [Act.put, sA, sB, sC, i64_w, i32_w]
  rfl
 refine pu 13 (some 18) (bT 15 14) HT_ ?_
 refine ro 14 (none) (bT 15 15) HT_ (fun K hK => ?_)
 have hs13 : w12.cell? ⟨gb184, 0, none⟩ = some (.int .i64 0) := bcl BK184 0
 have hfs13 := blk_frozen BK184.out 0
 have hns13_0 := NB182_184.out
 have hns13_1 := NB183_184.out
 have hms13_0 := NB184_182.out
 have hms13_1 := NB184_183.out
 have hs14 : w12.cell? ⟨gb184, 1, none⟩ = some (.int .i64 0) := bcl BK184 1
 have hfs14 := blk_frozen BK184.out 1
 have hns14_0 := NB182_184.out
 have hns14_1 := NB183_184.out
 have hms14_0 := NB184_182.out
 have hms14_1 := NB184_183.out
 have hs15 : w12.cell? ⟨gb184, 2, none⟩ = some (.int .i64 0) := bcl BK184 2
 have hfs15 := blk_frozen BK184.out 2
 have hns15_0 := NB182_184.out
 have hns15_1 := NB183_184.out
 have hms15_0 := NB184_182.out
 have hms15_1 := NB184_183.out
 have hs16 : w12.cell? ⟨gb184, 3, none⟩ = some (.int .i64 0) := bcl BK184 3
 have hfs16 := blk_frozen BK184.out 3
 have hns16_0 := NB182_184.out
 have hns16_1 := NB183_184.out
 have hms16_0 := NB184_182.out
 have hms16_1 := NB184_183.out
 have hs17 : w12.cell? ⟨gb184, 4, none⟩ = some (.int .i64 0) := bcl BK184 4
 have hfs17 := blk_frozen BK184.out 4
 have hns17_0 := NB182_184.out
 have hns17_1 := NB183_184.out
 have hms17_0 := NB184_182.out
 have hms17_1 := NB184_183.out
 have hs18 : w12.cell? ⟨gb184, 5, none⟩ = some (.int .i64 0) := bcl BK184 5
 have hfs18 := blk_frozen BK184.out 5
 have hns18_0 := NB182_184.out
 have hns18_1 := NB183_184.out
 have hms18_0 := NB184_182.out
 have hms18_1 := NB184_183.out
 refine skip_ (w1 := ?_) (by rfl) rfl ?_ ?_
 rotate_left
 ·go_simp
  rfl
 refine hK.out _ _ ⟨(cf6 NB182_184 (hHeld.1)), (cf6 NB182_184 (hHeld.2.1)), (cf6 NB182_184 (hHeld.2.2.1)), (cf6 NB182_184 (hHeld.2.2.2.1)), (cf6 NB182_184 (hHeld.2.2.2.2.1)), (cf6 NB182_184 (hHeld.2.2.2.2.2.1)), (cf6 NB183_184 (hHeld.2.2.2.2.2.2.1)), (cf6 NB183_184 (hHeld.2.2.2.2.2.2.2.1)), (cf6 NB183_184 (hHeld.2.2.2.2.2.2.2.2.1)), (cf6 NB183_184 (hHeld.2.2.2.2.2.2.2.2.2.1)), (cf6 NB183_184 (hHeld.2.2.2.2.2.2.2.2.2.2.1)), (cf6 NB183_184 (hHeld.2.2.2.2.2.2.2.2.2.2.2))⟩ (fun hHeld => ?_)
 clear hK K
 refine done_ (done_of HT_.out (by kernel_rfl)) ?_
 try go_wp2
 refine bodyPost_ret (results_cell_row rfl _ _ gb184 41 #[.int .i64 t185, .int .i64 t186, .int .i64 t187, .int .i64 t188, .int .i64 t191, .int .i64 t192] (0, 0) _ rfl (bq0 BK184) Try.underlying41 rfl (by kernel_rfl)) rfl ?_
 exact er (bbw3 HB GE182 GE183 GE184)
/-! ### spec_l01LessList: function 64 -/
mutual
def spec_l01LessList.l0 : Nat → List Int → List Int → Int → Option (Bool)
 | 0, _, _, _ => none
 | k + 1, x0, x1, x5 => if x5 < (x0.length : Int) then (spec_l01LessList.j1 k x0 x1 x5 (decide (x5 < (x1.length : Int)))) else (spec_l01LessList.j1 k x0 x1 x5 false)
def spec_l01LessList.j1 : Nat → List Int → List Int → Int → Bool → Option (Bool)
 | 0, _, _, _, _ => none
 | k + 1, x0, x1, x5, x15 => if x15 = true then (if 0 ≤ x5 then (if x5 < (x0.length : Int) then (if x5 < (x1.length : Int) then (if (rd x0 x5) = (rd x1 x5) then (spec_l01LessList.l0 k x0 x1 (wrap64 (x5 + 1))) else (some (decide ((rd x0 x5) < (rd x1 x5))))) else (none)) else (none)) else (none)) else (some (decide ((x0.length : Int) < (x1.length : Int))))
end
def spec_l01LessList.f (k : Nat) (l0 : List Int) (l1 : List Int) : Option (Bool) := spec_l01LessList.l0 k l0 l1 0
set_option maxHeartbeats 8000000 in
set_option maxRecDepth 100000 in
theorem spec_l01LessList.calls (k : Nat) (A0 : Option Addr) (c0 : Nat) (l0 : List Int) (A1 : Option Addr) (c1 : Nat) (l1 : List Int) (r : Bool) (w : World) (hr0 : Kd.C (Kd.int .i64) w A0 l0.length l0) (hc0 : l0.length ≤ c0) (hr1 : Kd.C (Kd.int .i64) w A1 l1.length l1) (hc1 : l1.length ≤ c1) (h : spec_l01LessList.f k l0 l1 = some r) :
  Calls Try.prog 64 #[.slice A0 l0.length c0, .slice A1 l1.length c1] w fun e w' => e = .returned (.bool r) ∧ Drawn0 w w' := by
 have HR0 := Aside0.mk hr0
 have HC0 := Aside0.mk hc0
 clear hr0 hc0
 have HR1 := Aside0.mk hr1
 have HC1 := Aside0.mk hc1
 clear hr1 hc1
 have H : (spec_l01LessList.l0 k l0 l1 0) = some r := h
 clear h
 have H' := Aside0.mk H
 clear H
 go_enter Try.func64, Try.ntmps64
 go_wp2
 repeat (go_quiet (fail); try go_wp2)
 go_loopg [5] k (fun kq v5 w' => ∃ (x5_1 : Int), v5 = .int .i64 x5_1 ∧ Aside0 (spec_l01LessList.l0 kq l0 l1 x5_1 = some r) ∧ Aside0 (kq ≤ k) ∧ Drawn0 w w')
 case atStart => exact ⟨(0), (by first | rfl | (simp; done) | (simp [*]; done)), H', ⟨Nat.le_refl _⟩, by repeat (first | exact Drawn0.refl _ | apply Drawn0.step)⟩
 case round =>
  clear H'
  try clear c1
  try clear p2
  obtain ⟨x5_1, rfl, HA, HK1, ⟨m1, rfl⟩⟩ := hrel
  cases gk with
  | zero => exact absurd HA.out (by simp [spec_l01LessList.l0])
  | succ k1 =>
   have H := HA.out
   clear HA
   simp only [spec_l01LessList.l0] at H
   have HC3 := Aside0.mk H
   clear H
   go_upto_region 2 with (fail)
   repeat (go_quiet (fail); go_upto_region 2 with (fail))
   go_cut [15] (fun v15 wc => ∃ (kq : Nat) (x15_2 : Bool), v15 = .bool x15_2 ∧ Aside0 (spec_l01LessList.j1 kq l0 l1 x5_1 x15_2 = some r) ∧ Aside0 (kq ≤ k1) ∧ Drawn0 w wc)
   case first =>
    have H := HC3.out
    clear HC3
    by_cases c4 : x5_1 < (l0.length : Int)
    ·rw [if_pos c4] at H
     have c4b0 := decide_eq_true c4
     clear c4
     (first | rw [c4b0] | (simp only [i64_w, i32_w]; rw [c4b0]) | skip)
     have H' := Aside0.mk H
     clear H
     go_wp2
     repeat (go_quiet (fail); try go_wp2)
     go_meet
     case rel => exact ⟨_, (decide (x5_1 < (l1.length : Int))), (by first | rfl | (simp; done) | (simp [*]; done)), H', ⟨by have := HK1.out; first | omega | exact Nat.le_refl _⟩, by repeat (first | exact Drawn0.refl _ | apply Drawn0.step)⟩
    ·rw [if_neg c4] at H
     have c4b0 := decide_eq_false c4
     clear c4
     (first | rw [c4b0] | (simp only [i64_w, i32_w]; rw [c4b0]) | skip)
     have H' := Aside0.mk H
     clear H
     go_wp2
     repeat (go_quiet (fail); try go_wp2)
     go_meet
     case rel => exact ⟨_, (false), (by first | rfl | (simp; done) | (simp [*]; done)), H', ⟨by have := HK1.out; first | omega | exact Nat.le_refl _⟩, by repeat (first | exact Drawn0.refl _ | apply Drawn0.step)⟩
   case rest =>
    clear HC3
    try clear c1
    try clear p2
    try clear c4
    try clear c4b0
    try clear p2
    obtain ⟨kq, x15_2, rfl, HA, HJ2, ⟨mc2, rfl⟩⟩ := hcut
    cases kq with
    | zero => exact absurd HA.out (by simp [spec_l01LessList.j1])
    | succ kj2 =>
     have H := HA.out
     clear HA
     simp only [spec_l01LessList.j1] at H
     by_cases c5 : x15_2 = true
     subst c5
     replace H := ifT H
     by_cases c6 : 0 ≤ x5_1
     rw [if_pos c6] at H
     have c6b0 := decide_eq_true c6
     clear c6
     by_cases c7 : x5_1 < (l0.length : Int)
     rw [if_pos c7] at H
     have c7b0 := decide_eq_true c7
     clear c7
     by_cases c8 : x5_1 < (l1.length : Int)
     rw [if_pos c8] at H
     have c8b0 := decide_eq_true c8
     clear c8
     by_cases c9 : (rd l0 x5_1) = (rd l1 x5_1)
     rw [if_pos c9] at H
     have c9b0 : ((rd l0 x5_1) == (rd l1 x5_1)) = true := beq_iff_eq.mpr c9
     have c9b1 : ((rd l0 x5_1) != (rd l1 x5_1)) = false := bne_eq_false_iff_eq.mpr c9
     clear c9
     have H' := Aside0.mk H
     clear H
     rotate_left
     rw [if_neg c9] at H
     have c9b0 : ((rd l0 x5_1) == (rd l1 x5_1)) = false := beq_eq_false_iff_ne.mpr c9
     have c9b1 : ((rd l0 x5_1) != (rd l1 x5_1)) = true := bne_iff_ne.mpr c9
     obtain rfl := Option.some.inj H
     rotate_left
     ·rw [if_neg c8] at H
      exact absurd H (by simp)
     ·rw [if_neg c7] at H
      exact absurd H (by simp)
     ·rw [if_neg c6] at H
      exact absurd H (by simp)
     replace c5 := Bool.eq_false_iff.mpr c5
     subst c5
     replace H := ifF H
     obtain rfl := Option.some.inj H
     rotate_left
     rotate_left 2
     ·go_wp2
      repeat (go_quiet (fail); try go_wp2)
      go_ret
      exact ⟨by first | rfl | (simp; done) | (simp [*]; done), by repeat (first | exact Drawn0.refl _ | apply Drawn0.step)⟩
     all_goals
      have p193 : 0 ≤ (x5_1 : Int) := od
      have q193 : x5_1 < (l0.length : Int) := od
      obtain ⟨ad193, e193, hx193_0⟩ := Kd.at_int HR0.out x5_1 p193 q193
      cases e193
      replace p193 := eq_true p193
      replace q193 := eq_true q193
      have p194 : 0 ≤ (x5_1 : Int) := od
      have q194 : x5_1 < (l1.length : Int) := od
      obtain ⟨ad194, e194, hx194_0⟩ := Kd.at_int HR1.out x5_1 p194 q194
      cases e194
      replace p194 := eq_true p194
      replace q194 := eq_true q194
     ·go_wp2
      repeat (go_quiet (fail); try go_wp2)
      go_roundg kj2
      case measure => have := HK1.out; have := HJ2.out; omega
      case rel => exact ⟨(wrap64 (x5_1 + 1)), (by first | rfl | (simp; done) | (simp [*]; done)), H', ⟨by have := HK1.out; have := HJ2.out; omega⟩, by repeat (first | exact Drawn0.refl _ | apply Drawn0.step)⟩
     ·have p195 : 0 ≤ (x5_1 : Int) := od
      have q195 : x5_1 < (l0.length : Int) := od
      obtain ⟨ad195, e195, hx195_0⟩ := Kd.at_int HR0.out x5_1 p195 q195
      obtain rfl : ad193 = ad195 := (by injection e195)
      replace p195 := eq_true p195
      replace q195 := eq_true q195
      have p196 : 0 ≤ (x5_1 : Int) := od
      have q196 : x5_1 < (l1.length : Int) := od
      obtain ⟨ad196, e196, hx196_0⟩ := Kd.at_int HR1.out x5_1 p196 q196
      obtain rfl : ad194 = ad196 := (by injection e196)
      replace p196 := eq_true p196
      replace q196 := eq_true q196
      go_wp2
      repeat (go_quiet (fail); try go_wp2)
      go_ret
      exact ⟨by first | rfl | (simp; done) | (simp [*]; done), by repeat (first | exact Drawn0.refl _ | apply Drawn0.step)⟩
/-! ### spec_l02Numbers: function 65 -/
def spec_l02Numbers.f (a0_0 : Int) (a0_1 : Int) (a0_2 : Int) (a0_3 : Int) : Option (List Int) := some (([a0_0, a0_1, a0_2, a0_3] : List Int))
set_option maxHeartbeats 8000000 in
set_option maxRecDepth 100000 in
theorem spec_l02Numbers.calls (a0_0 : Int) (a0_1 : Int) (a0_2 : Int) (a0_3 : Int) (r : List Int) (w : World) (h : spec_l02Numbers.f a0_0 a0_1 a0_2 a0_3 = some r) :
  Calls Try.prog 65 #[.agg #[.int .i64 a0_0, .int .i64 a0_1, .int .i64 a0_2, .int .i64 a0_3]] w fun e w' => ∃ v0_ : Value, e = .returned (v0_) ∧ Kd.R (Kd.int .i64) 2 w' w.heap.size (fun _ => True) v0_ r ∧ Below w.heap.size w w' := by
 have hu37 := Try.underlying37
 have HB := asd (Below.refl w.heap.size w)
 have H : (some (([a0_0, a0_1, a0_2, a0_3] : List Int))) = some r := h
 clear h
 obtain ⟨y198, hy198⟩ : ∃ y_ : List Int, y_ = (([a0_0, a0_1, a0_2, a0_3] : List Int)) := ⟨_, rfl⟩
 replace H : (some y198) = some r := by first | (rw [hy198]; with_reducible exact H) | (have H2_ := (Option.bind_some _ _).symm.trans H; rw [hy198]; with_reducible exact H2_) | (have H2_ := (Option.bind_some _ _).symm.trans H; with_reducible exact H2_) | with_reducible exact H | (rw [hy198]; exact H) | exact H
 have Ny198 := Aside0.mk hy198
 clear hy198
 obtain rfl := Option.some.inj H
 go_enter Try.func65, Try.ntmps65
 go_wp2_with (first | ((with_reducible refine gd 1 rfl ?_); refine bx #[.int .i64 a0_0, .int .i64 a0_1, .int .i64 a0_2, .int .i64 a0_3] 37 ?_; intro gb197 hg w2 BK197 hb; have GE197 := ngw0 hg HB; replace HB := bS0 HB hb; clear hb hg; obtain ⟨hcz3_0, hcz3_1, hcz3_2, hcz3_3, hfz3_0, hfz3_1, hfz3_2, hfz3_3⟩ := bz4 BK197) | ((with_reducible refine gd 11 rfl ?_); refine Kd.R_lit (Kd.int .i64) _ 2 ?hg (N := 11) ?hd (xs := ([a0_0, a0_1, a0_2, a0_3] : List Int)) (inner := [.int .i64 a0_0, .int .i64 a0_1, .int .i64 a0_2, .int .i64 a0_3]) (ok := fun _ => True) (okp := fun _ => True) ?hr ?hp (fun _ hk => hk) trivial (Below.refl _ _) (Nat.le_refl _) (by simp) ?_; (case hd => rfl); (case hg => rfl); (case hr => first | (go_simp; done) | (go_simp; rfl)); (case hp => exact (Reps.one (show Kd.M (Kd.int .i64) _ _ _ a0_0 [.int .i64 a0_0] from rfl) (Reps.one (show Kd.M (Kd.int .i64) _ _ _ a0_1 [.int .i64 a0_1] from rfl) (Reps.one (show Kd.M (Kd.int .i64) _ _ _ a0_2 [.int .i64 a0_2] from rfl) (Reps.one (show Kd.M (Kd.int .i64) _ _ _ a0_3 [.int .i64 a0_3] from rfl) (Reps.none _ _)))))); intro v199 w4 ho5 hb hg_ hnew_; clear hg_ hnew_; (first | rw [← Ny198.out] at ho5 | (simp only [Int.reduceToNat] at ho5; rw [← Ny198.out] at ho5)); have HO200 := asd (Kd.R_lower ho5 (bsz1 HB GE197)); replace BK197 := bB BK197 hb; replace HB := bS1 HB GE197 hb; clear hb ho5))
 go_ret
 exact ⟨_, by first | rfl | (simp [errW_none, errW_some] <;> rfl) | (simp [*, errW_none, errW_some] <;> rfl), by (with_reducible repeat (first | apply Kd.R_alloc | apply Kd.R_drewN | apply Kd.R_drew)); exact HO200.out, bbw1 HB GE197⟩

attribute [local go_sem high] eqA37 eqA41
/-! ### spec_l02Less: function 57 -/
def spec_l02Less.f (k : Nat) (a0_0 : Int) (a0_1 : Int) (a0_2 : Int) (a0_3 : Int) (a1_0 : Int) (a1_1 : Int) (a1_2 : Int) (a1_3 : Int) : Option (Bool) := (spec_l02Numbers.f a0_0 a0_1 a0_2 a0_3).bind fun t203 => ((spec_l02Numbers.f a1_0 a1_1 a1_2 a1_3).bind fun t206 => ((spec_l01LessList.f k t203 t206).bind fun t209 => (some t209)))
set_option maxHeartbeats 8000000 in
set_option maxRecDepth 100000 in
theorem spec_l02Less.calls (k : Nat) (a0_0 : Int) (a0_1 : Int) (a0_2 : Int) (a0_3 : Int) (a1_0 : Int) (a1_1 : Int) (a1_2 : Int) (a1_3 : Int) (r : Bool) (w : World) (h : spec_l02Less.f k a0_0 a0_1 a0_2 a0_3 a1_0 a1_1 a1_2 a1_3 = some r) :
  Calls Try.prog 57 #[.agg #[.int .i64 a0_0, .int .i64 a0_1, .int .i64 a0_2, .int .i64 a0_3], .agg #[.int .i64 a1_0, .int .i64 a1_1, .int .i64 a1_2, .int .i64 a1_3]] w fun e w' => e = .returned (.bool r) ∧ Below w.heap.size w w' := by
 have hu37 := Try.underlying37
 have HB := asd (Below.refl w.heap.size w)
 have H : ((spec_l02Numbers.f a0_0 a0_1 a0_2 a0_3).bind fun t203 => ((spec_l02Numbers.f a1_0 a1_1 a1_2 a1_3).bind fun t206 => ((spec_l01LessList.f k t203 t206).bind fun t209 => (some t209)))) = some r := h
 clear h
 obtain ⟨t203, A3, H⟩ := ob H
 try dsimp only at H
 obtain ⟨t206, A4, H⟩ := ob H
 try dsimp only at H
 obtain ⟨t209, A5, H⟩ := ob H
 try dsimp only at H
 obtain rfl := Option.some.inj H
 go_enter Try.func57, Try.ntmps57
 try go_wp2_with (first | ((with_reducible refine gd 2 rfl ?_); refine bx #[.int .i64 a0_0, .int .i64 a0_1, .int .i64 a0_2, .int .i64 a0_3] 37 ?_; intro gb201 hg w6 BK201 hb; have GE201 := ngw0 hg HB; replace HB := bS0 HB hb; clear hb hg) | ((with_reducible refine gd 3 rfl ?_); refine bx #[.int .i64 a1_0, .int .i64 a1_1, .int .i64 a1_2, .int .i64 a1_3] 37 ?_; intro gb202 hg w7 BK202 hb; have GE202 := ngw1 hg HB GE201; replace HB := bS1 HB GE201 hb; have NB201_202 := nlt hg BK201; have NB202_201 := nsy (nlt hg BK201); replace BK201 := bB BK201 hb; clear hb hg))
 replace BK201 := asd (blk_drew BK201.out)
 replace BK202 := asd (blk_drew BK202.out)
 replace HB := asd (below_drew1 HB.out)
 refine sh 6 (cb4 BK201 (eb4 BK202)) (fun hHeld => ?_)
 generalize w7.drew = w8 at BK201 BK202 HB hHeld ⊢
 refine take_ (i := 0) (N := some 5) (v := ?_) (a' := ?_) (bT 6 1) rfl rfl (by kernel_rfl) (fun _ _ _ h => h) (Or.inl ⟨by rfl, ?_⟩) hHeld ?_ ?_
 rotate_left
 ·rintro w' ⟨s0, s1, s2, s3, s4, s5, s6, s7⟩
  go_simp
  with_reducible rfl
 rotate_left
 ·simp only [Act.put, sA, sB, sC, i64_w, i32_w]
  rfl
 refine take_ (i := 2) (N := some 7) (v := ?_) (a' := ?_) (bs 6 5) rfl rfl (by kernel_rfl) (fun _ _ _ h => h) (Or.inl ⟨by rfl, ?_⟩) hHeld ?_ ?_
 rotate_left
 ·rintro w' ⟨s0, s1, s2, s3, s4, s5, s6, s7⟩
  go_simp
  with_reducible rfl
 rotate_left
 ·simp only [Act.put, sA, sB, sC, i64_w, i32_w]
  rfl
 refine one_ (i := 1) (N := some 6) (bT 6 3) rfl rfl (by kernel_rfl) (by decide) (fun K hK => ?_)
 refine gs Try.func65 #[.agg #[.int .i64 a0_0, .int .i64 a0_1, .int .i64 a0_2, .int .i64 a0_3]] ?_
 with_reducible refine (spec_l02Numbers.calls _ _ _ _ _ _ A3.out).mono ?_
 rintro e w9 ⟨v204, rfl, ho0, hb⟩
 refine ⟨_, rfl, ?_⟩
 have HO205 := asd (Kd.R_lower ho0 (bsz2 HB GE201 GE202))
 replace BK201 := bB BK201 hb
 replace BK202 := bB BK202 hb
 replace HB := bS2 HB GE201 GE202 hb
 (try clear hb)
 (try clear hb2)
 (try clear hk)
 (try clear hi)
 (try clear ho0)
 refine hK.out _ _ (cb4 BK201 (eb4 BK202)).out (fun hHeld => ?_)
 clear hK K
 refine norm_ (a' := ?_) ?_ ?_
 rotate_left
 ·show Act.put _ (some 6) _ = _
  simp only [Act.put, sA, sB, sC, i64_w, i32_w]
  rfl
 refine one_ (i := 3) (N := some 8) (bT 6 4) rfl rfl (by kernel_rfl) (by decide) (fun K hK => ?_)
 refine gs Try.func65 #[.agg #[.int .i64 a1_0, .int .i64 a1_1, .int .i64 a1_2, .int .i64 a1_3]] ?_
 with_reducible refine (spec_l02Numbers.calls _ _ _ _ _ _ A4.out).mono ?_
 rintro e w10 ⟨v207, rfl, ho0, hb⟩
 refine ⟨_, rfl, ?_⟩
 have HO208 := asd (Kd.R_lower (Kd.R_new' ho0 (Kd.R_lt (kr HO205))) (bsz2 HB GE201 GE202))
 replace HO205 := asd (Kd.R_elder' (kr HO205) (Kd.R_base ho0) hb)
 replace BK201 := bB BK201 hb
 replace BK202 := bB BK202 hb
 replace HB := bS2 HB GE201 GE202 hb
 (try clear hb)
 (try clear hb2)
 (try clear hk)
 (try clear hi)
 (try clear ho0)
 obtain ⟨Ao11, co11, eo11⟩ := Kd.R_slice HO205.out
 (first | subst eo11 | (injection eo11 with f1_ f2_ f3_; have f4_ := f1_.symm; have f5_ := f3_.symm; clear f1_ f2_ f3_; subst f4_; subst f5_))
 obtain ⟨Ao12, co12, eo12⟩ := Kd.R_slice HO208.out
 (first | subst eo12 | (injection eo12 with f1_ f2_ f3_; have f4_ := f1_.symm; have f5_ := f3_.symm; clear f1_ f2_ f3_; subst f4_; subst f5_))
 refine hK.out _ _ (cb4 BK201 (eb4 BK202)).out (fun hHeld => ?_)
 clear hK K
 refine norm_ (a' := ?_) ?_ ?_
 rotate_left
 ·show Act.put _ (some 8) _ = _
  simp only [Act.put, sA, sB, sC, i64_w, i32_w]
  rfl
 refine one_ (i := 4) (N := some 9) (bT 6 5) rfl rfl (by kernel_rfl) (by decide) (fun K hK => ?_)
 refine gs Try.func64 #[.slice Ao11 t203.length co11, .slice Ao12 t206.length co12] ?_
 with_reducible refine (spec_l01LessList.calls _ _ _ _ _ _ _ _ _ ?side1 ?side2 ?side3 ?side4 A5.out).mono ?_
 (case side1 => exact ks (Kd.R_reads' HO205.out).2.2)
 (case side2 => exact (Kd.R_reads' HO205.out).2.1)
 (case side3 => exact ks (Kd.R_reads' HO208.out).2.2)
 (case side4 => exact (Kd.R_reads' HO208.out).2.1)
 rintro e w' ⟨rfl, ⟨nd, rfl⟩⟩
 refine ⟨_, rfl, ?_⟩
 refine hK.out _ _ (cb4 BK201 (eb4 BK202)).out (fun hHeld => ?_)
 clear hK K
 refine norm_ (a' := ?_) ?_ ?_
 rotate_left
 ·show Act.put _ (some 9) _ = _
  simp only [Act.put, sA, sB, sC, i64_w, i32_w]
  rfl
 refine pure_ (i := 5) (N := some 4) (v := ?_) (a' := ?_) (bT 6 6) rfl rfl (by kernel_rfl) (fun _ _ _ h => h) (Or.inl ⟨by rfl, ?_⟩) ?_ ?_
 rotate_left
 ·intro w'
  go_simp
  with_reducible rfl
 rotate_left
 ·simp only [Act.put, sA, sB, sC, i64_w, i32_w]
  rfl
 refine done_ (by kernel_rfl) ?_
 try go_wp2
 go_ret
 exact er (bbw2 HB GE201 GE202)
/-! ### spec_l01Less: function 58 -/
def spec_l01Less.f (a0_0 : Int) (a0_1 : Int) (a1_0 : Int) (a1_1 : Int) : Option (Bool) := if a0_0 < a1_0 then (some true) else (if a0_0 = a1_0 then (some (decide (a0_1 < a1_1))) else (some false))
set_option maxHeartbeats 8000000 in
set_option maxRecDepth 100000 in
theorem spec_l01Less.calls (a0_0 : Int) (a0_1 : Int) (a1_0 : Int) (a1_1 : Int) (r : Bool) (w : World) (h : spec_l01Less.f a0_0 a0_1 a1_0 a1_1 = some r) :
  Calls Try.prog 58 #[.agg #[.int .i64 a0_0, .int .i64 a0_1], .agg #[.int .i64 a1_0, .int .i64 a1_1]] w fun e w' => e = .returned (.bool r) ∧ Below w.heap.size w w' := by
 have hu39 := Try.underlying39
 have HB := asd (Below.refl w.heap.size w)
 have H : (if a0_0 < a1_0 then (some true) else (if a0_0 = a1_0 then (some (decide (a0_1 < a1_1))) else (some false))) = some r := h
 clear h
 by_cases c3 : a0_0 < a1_0
 rw [if_pos c3] at H
 have c3b0 := decide_eq_true c3
 clear c3
 obtain rfl := Option.some.inj H
 rotate_left
 rw [if_neg c3] at H
 have c3b0 := decide_eq_false c3
 clear c3
 by_cases c9 : a0_0 = a1_0
 rw [if_pos c9] at H
 have c9b0 : (a0_0 == a1_0) = true := beq_iff_eq.mpr c9
 have c9b1 : (a0_0 != a1_0) = false := bne_eq_false_iff_eq.mpr c9
 clear c9
 obtain rfl := Option.some.inj H
 rotate_left
 rw [if_neg c9] at H
 have c9b0 : (a0_0 == a1_0) = false := beq_eq_false_iff_ne.mpr c9
 have c9b1 : (a0_0 != a1_0) = true := bne_iff_ne.mpr c9
 obtain rfl := Option.some.inj H
 rotate_left
 all_goals
  go_enter Try.func58, Try.ntmps58
  go_wp2_with (first | ((with_reducible refine gd 2 rfl ?_); refine bx #[.int .i64 a0_0, .int .i64 a0_1] 39 ?_; intro gb210 hg w4 BK210 hb; have GE210 := ngw0 hg HB; replace HB := bS0 HB hb; clear hb hg) | ((with_reducible refine gd 3 rfl ?_); refine bx #[.int .i64 a1_0, .int .i64 a1_1] 39 ?_; intro gb211 hg w5 BK211 hb; have GE211 := ngw1 hg HB GE210; replace HB := bS1 HB GE210 hb; have NB210_211 := nlt hg BK210; have NB211_210 := nsy (nlt hg BK210); replace BK210 := bB BK210 hb; clear hb hg; have hnb6 := NB210_211.out; have hnc6 := NB211_210.out; obtain ⟨hcz7_0, hcz7_1, hfz7_0, hfz7_1⟩ := bz2 BK210; obtain ⟨hcz8_0, hcz8_1, hfz8_0, hfz8_1⟩ := bz2 BK211))
  go_ret
  exact er (bbw2 HB GE210 GE211)
/-! ### spec_l05Less: function 44 -/
def spec_l05Less.f (k : Nat) (a0_0 : Int) (a0_1 : Int) (a0_2 : Int) (a0_3 : Int) (a0_4 : Int) (a0_5 : Int) (a1_0 : Int) (a1_1 : Int) (a1_2 : Int) (a1_3 : Int) (a1_4 : Int) (a1_5 : Int) : Option (Bool) := if (!(a0_0 == a1_0) || (!(a0_1 == a1_1) || (!(a0_2 == a1_2) || (!(a0_3 == a1_3))))) = true then ((spec_l02Less.f k a0_0 a0_1 a0_2 a0_3 a1_0 a1_1 a1_2 a1_3).bind fun t214 => (some t214)) else ((spec_l01Less.f a0_4 a0_5 a1_4 a1_5).bind fun t215 => (some t215))
set_option maxHeartbeats 8000000 in
set_option maxRecDepth 100000 in
theorem spec_l05Less.calls (k : Nat) (a0_0 : Int) (a0_1 : Int) (a0_2 : Int) (a0_3 : Int) (a0_4 : Int) (a0_5 : Int) (a1_0 : Int) (a1_1 : Int) (a1_2 : Int) (a1_3 : Int) (a1_4 : Int) (a1_5 : Int) (r : Bool) (w : World) (h : spec_l05Less.f k a0_0 a0_1 a0_2 a0_3 a0_4 a0_5 a1_0 a1_1 a1_2 a1_3 a1_4 a1_5 = some r) :
  Calls Try.prog 44 #[.agg #[.int .i64 a0_0, .int .i64 a0_1, .int .i64 a0_2, .int .i64 a0_3, .int .i64 a0_4, .int .i64 a0_5], .agg #[.int .i64 a1_0, .int .i64 a1_1, .int .i64 a1_2, .int .i64 a1_3, .int .i64 a1_4, .int .i64 a1_5]] w fun e w' => e = .returned (.bool r) ∧ Below w.heap.size w w' := by
 have hu41 := Try.underlying41
 have hu37 := Try.underlying37
 have hu39 := Try.underlying39
 have HB := asd (Below.refl w.heap.size w)
 have H : (if (!(a0_0 == a1_0) || (!(a0_1 == a1_1) || (!(a0_2 == a1_2) || (!(a0_3 == a1_3))))) = true then ((spec_l02Less.f k a0_0 a0_1 a0_2 a0_3 a1_0 a1_1 a1_2 a1_3).bind fun t214 => (some t214)) else ((spec_l01Less.f a0_4 a0_5 a1_4 a1_5).bind fun t215 => (some t215))) = some r := h
 clear h
 by_cases c3 : (!(a0_0 == a1_0) || (!(a0_1 == a1_1) || (!(a0_2 == a1_2) || (!(a0_3 == a1_3))))) = true
 rw [if_pos c3] at H
 have c3b0 := c3
 clear c3
 obtain ⟨t214, A4, H⟩ := ob H
 try dsimp only at H
 obtain rfl := Option.some.inj H
 rotate_left
 rw [if_neg c3] at H
 have c3b0 : (!(a0_0 == a1_0) || (!(a0_1 == a1_1) || (!(a0_2 == a1_2) || (!(a0_3 == a1_3))))) = false := by simpa using c3
 clear c3
 obtain ⟨t215, A11, H⟩ := ob H
 try dsimp only at H
 obtain rfl := Option.some.inj H
 rotate_left
 all_goals
  go_enter Try.func44, Try.ntmps44
  go_wp2_with (first | ((with_reducible refine gd 2 rfl ?_); refine bx #[.int .i64 a0_0, .int .i64 a0_1, .int .i64 a0_2, .int .i64 a0_3, .int .i64 a0_4, .int .i64 a0_5] 41 ?_; intro gb212 hg w5 BK212 hb; have GE212 := ngw0 hg HB; replace HB := bS0 HB hb; clear hb hg) | ((with_reducible refine gd 3 rfl ?_); refine bx #[.int .i64 a1_0, .int .i64 a1_1, .int .i64 a1_2, .int .i64 a1_3, .int .i64 a1_4, .int .i64 a1_5] 41 ?_; intro gb213 hg w6 BK213 hb; have GE213 := ngw1 hg HB GE212; replace HB := bS1 HB GE212 hb; have NB212_213 := nlt hg BK212; have NB213_212 := nsy (nlt hg BK212); replace BK212 := bB BK212 hb; clear hb hg; have hnb7 := NB212_213.out; have hnc7 := NB213_212.out; obtain ⟨hcz8_0, hcz8_1, hcz8_2, hcz8_3, hcz8_4, hcz8_5, hfz8_0, hfz8_1, hfz8_2, hfz8_3, hfz8_4, hfz8_5⟩ := bz6 BK212; obtain ⟨hcz9_0, hcz9_1, hcz9_2, hcz9_3, hcz9_4, hcz9_5, hfz9_0, hfz9_1, hfz9_2, hfz9_3, hfz9_4, hfz9_5⟩ := bz6 BK213) | ((with_reducible refine gate_callee (f := 57) rfl ?_); refine gl 14 Try.func57 #[.agg #[.int .i64 a0_0, .int .i64 a0_1, .int .i64 a0_2, .int .i64 a0_3], .agg #[.int .i64 a1_0, .int .i64 a1_1, .int .i64 a1_2, .int .i64 a1_3]] ?_; (with_reducible refine (spec_l02Less.calls _ _ _ _ _ _ _ _ _ _ _ A4.out).mono ?_); rintro e w10 ⟨rfl, hb⟩; refine ⟨_, rfl, ?_⟩; replace BK212 := bB BK212 hb; replace BK213 := bB BK213 hb; replace HB := bS2 HB GE212 GE213 hb; (try clear hb)) | ((with_reducible refine gate_callee (f := 58) rfl ?_); refine gl 19 Try.func58 #[.agg #[.int .i64 a0_4, .int .i64 a0_5], .agg #[.int .i64 a1_4, .int .i64 a1_5]] ?_; (with_reducible refine (spec_l01Less.calls _ _ _ _ _ _ A11.out).mono ?_); rintro e w17 ⟨rfl, hb⟩; refine ⟨_, rfl, ?_⟩; replace BK212 := bB BK212 hb; replace BK213 := bB BK213 hb; replace HB := bS2 HB GE212 GE213 hb; (try clear hb)))
  go_ret
  exact er (bbw2 HB GE212 GE213)
/-! ### spec_l06Place: function 34 -/
def spec_l06Place.l0 : Nat → List (S41) → Int → Int → Int → Int → Int → Int → Int → Int → Option (Int)
 | 0, _, _, _, _, _, _, _, _, _ => none
 | k + 1, x0, x5, x6, x217000, x217001, x217002, x217003, x217004, x217005 => if x5 < x6 then (if 0 ≤ (wrap64 (Int.tdiv (wrap64 (x5 + x6)) 2)) then (if (wrap64 (Int.tdiv (wrap64 (x5 + x6)) 2)) < (x0.length : Int) then ((spec_l05Less.f k ((rd_T41 x0 (wrap64 (Int.tdiv (wrap64 (x5 + x6)) 2))).f0.f0) ((rd_T41 x0 (wrap64 (Int.tdiv (wrap64 (x5 + x6)) 2))).f0.f1) ((rd_T41 x0 (wrap64 (Int.tdiv (wrap64 (x5 + x6)) 2))).f0.f2) ((rd_T41 x0 (wrap64 (Int.tdiv (wrap64 (x5 + x6)) 2))).f0.f3) ((rd_T41 x0 (wrap64 (Int.tdiv (wrap64 (x5 + x6)) 2))).f1.f0) ((rd_T41 x0 (wrap64 (Int.tdiv (wrap64 (x5 + x6)) 2))).f1.f1) x217000 x217001 x217002 x217003 x217004 x217005).bind fun t218 => (if t218 = true then (spec_l06Place.l0 k x0 (wrap64 ((wrap64 (Int.tdiv (wrap64 (x5 + x6)) 2)) + 1)) x6 x217000 x217001 x217002 x217003 x217004 x217005) else (spec_l06Place.l0 k x0 x5 (wrap64 (Int.tdiv (wrap64 (x5 + x6)) 2)) x217000 x217001 x217002 x217003 x217004 x217005))) else (none)) else (none)) else (some x5)
def spec_l06Place.f (k : Nat) (l0 : List (S41)) (a1_0 : Int) (a1_1 : Int) (a1_2 : Int) (a1_3 : Int) (a1_4 : Int) (a1_5 : Int) : Option (Int) := spec_l06Place.l0 k l0 0 (l0.length : Int) a1_0 a1_1 a1_2 a1_3 a1_4 a1_5
set_option maxHeartbeats 8000000 in
set_option maxRecDepth 100000 in
theorem spec_l06Place.calls (k : Nat) (A0 : Option Addr) (c0 : Nat) (l0 : List (S41)) (a1_0 : Int) (a1_1 : Int) (a1_2 : Int) (a1_3 : Int) (a1_4 : Int) (a1_5 : Int) (r : Int) (w : World) (hr0 : Kd.C k41 w A0 l0.length l0) (hc0 : l0.length ≤ c0) (h : spec_l06Place.f k l0 a1_0 a1_1 a1_2 a1_3 a1_4 a1_5 = some r) :
  Calls Try.prog 34 #[.slice A0 l0.length c0, .agg #[.int .i64 a1_0, .int .i64 a1_1, .int .i64 a1_2, .int .i64 a1_3, .int .i64 a1_4, .int .i64 a1_5]] w fun e w' => e = .returned (.int .i64 r) ∧ Below w.heap.size w w' := by
 have hu41 := Try.underlying41
 have HR0 := Aside0.mk hr0
 have HC0 := Aside0.mk hc0
 clear hr0 hc0
 have HB := asd (Below.refl w.heap.size w)
 have H : (spec_l06Place.l0 k l0 0 (l0.length : Int) a1_0 a1_1 a1_2 a1_3 a1_4 a1_5) = some r := h
 clear h
 have H' := Aside0.mk H
 clear H
 go_enter Try.func34, Try.ntmps34
 go_wp2_with (first | ((with_reducible refine gd 3 rfl ?_); refine bx #[.int .i64 a1_0, .int .i64 a1_1, .int .i64 a1_2, .int .i64 a1_3, .int .i64 a1_4, .int .i64 a1_5] 41 ?_; intro gb216 hg w3 BK216 hb; have GE216 := ngw0 hg HB; replace HB := bS0 HB hb; clear hb hg))
 go_loopg [5, 6] k (fun kq v5 v6 w' => ∃ (x5_1 : Int) (x6_1 : Int), v5 = .int .i64 x5_1 ∧ v6 = .int .i64 x6_1 ∧ Aside0 (spec_l06Place.l0 kq l0 x5_1 x6_1 a1_0 a1_1 a1_2 a1_3 a1_4 a1_5 = some r) ∧ Aside0 (kq ≤ k) ∧ Aside0 (w'.heap[gb216]? = some (.cells #[.int .i64 a1_0, .int .i64 a1_1, .int .i64 a1_2, .int .i64 a1_3, .int .i64 a1_4, .int .i64 a1_5] 41 (0, 0))) ∧ Aside0 (Below w.heap.size w w'))
 case atStart => exact ⟨(0), ((l0.length : Int)), (by first | rfl | (simp; done) | (simp [*]; done)), (by first | rfl | (simp; done) | (simp [*]; done)), H', ⟨Nat.le_refl _⟩, ⟨bkp BK216⟩, ⟨bbw1 HB GE216⟩⟩
 case round =>
  clear H'
  try clear p2
  try clear c3
  obtain ⟨x5_1, x6_1, rfl, rfl, HA, HK1, BK216, HB⟩ := hrel
  cases gk with
  | zero => exact absurd HA.out (by simp [spec_l06Place.l0])
  | succ k1 =>
   have H := HA.out
   clear HA
   simp only [spec_l06Place.l0] at H
   by_cases c4 : x5_1 < x6_1
   rw [if_pos c4] at H
   have c4b0 := decide_eq_true c4
   clear c4
   obtain ⟨ji5, hji5⟩ : ∃ j_ : Int, (wrap64 (Int.tdiv (wrap64 (x5_1 + x6_1)) 2)) = j_ := ⟨_, rfl⟩
   replace H : (if 0 ≤ (ji5) then (if (ji5) < (l0.length : Int) then ((spec_l05Less.f k1 ((rd_T41 l0 (ji5)).f0.f0) ((rd_T41 l0 (ji5)).f0.f1) ((rd_T41 l0 (ji5)).f0.f2) ((rd_T41 l0 (ji5)).f0.f3) ((rd_T41 l0 (ji5)).f1.f0) ((rd_T41 l0 (ji5)).f1.f1) a1_0 a1_1 a1_2 a1_3 a1_4 a1_5).bind fun t218 => (if t218 = true then (spec_l06Place.l0 k1 l0 (wrap64 ((ji5) + 1)) x6_1 a1_0 a1_1 a1_2 a1_3 a1_4 a1_5) else (spec_l06Place.l0 k1 l0 x5_1 ji5 a1_0 a1_1 a1_2 a1_3 a1_4 a1_5))) else (none)) else (none)) = some r := by first | (rw [hji5] at H; first | done | exact H) | (simp only [hji5] at H ⊢; exact H)
   have hji5w : (IntKind.i64.wrap (Int.tdiv (wrap64 (x5_1 + x6_1)) 2)) = ji5 := (i64_w _).trans hji5
   by_cases c6 : 0 ≤ (ji5)
   rw [if_pos c6] at H
   have c6b0 := decide_eq_true c6
   clear c6
   by_cases c7 : (ji5) < (l0.length : Int)
   rw [if_pos c7] at H
   have c7b0 := decide_eq_true c7
   clear c7
   obtain ⟨t218, A8, H⟩ := ob H
   try dsimp only at H
   by_cases c9 : t218 = true
   subst c9
   replace H := ifT H
   have H' := Aside0.mk H
   clear H
   rotate_left
   replace c9 := Bool.eq_false_iff.mpr c9
   subst c9
   replace H := ifF H
   have H' := Aside0.mk H
   clear H
   rotate_left
   ·rw [if_neg c7] at H
    exact absurd H (by simp)
   ·rw [if_neg c6] at H
    exact absurd H (by simp)
   rw [if_neg c4] at H
   have c4b0 := decide_eq_false c4
   clear c4
   obtain rfl := Option.some.inj H
   rotate_left
   rotate_left 2
   ·go_wp2
    go_ret
    exact er (bbw1 HB GE216)
   all_goals
    try go_wp2
    replace BK216 := asd (blk_drew BK216.out)
    replace HB := asd (below_drew1 HB.out)
    obtain ⟨p217, q217, ad217, e217, hw217_0, hw217_1, hw217_2, hw217_3, hw217_4, hw217_5, hx217_0, hx217_1, hx217_2, hx217_3, hx217_4, hx217_5⟩ := at_T41w HR0.out HB (ji5)
    cases e217
    refine sh 6 (cb6 BK216 (ex6 HB hw217_0 hw217_1 hw217_2 hw217_3 hw217_4 hw217_5)) (fun hHeld => ?_)
    generalize wr.drew = w10 at BK216 HB hx217_0 hx217_1 hx217_2 hx217_3 hx217_4 hx217_5 hHeld ⊢
    refine pure_ (i := 0) (N := some 17) (v := ?_) (a' := ?_) (bT 6 1) rfl rfl (by kernel_rfl) (fun _ _ _ h => h) (Or.inl ⟨by rfl, ?_⟩) ?_ ?_
    rotate_left
    ·intro w'
     go_simp
     with_reducible rfl
    rotate_left
    ·simp only [Act.put, sA, sB, sC, i64_w, i32_w]
     rfl
    refine pure_ (i := 1) (N := some 18) (v := ?_) (a' := ?_) (bT 6 2) rfl rfl (by kernel_rfl) (fun _ _ _ h => h) (Or.inl ⟨by rfl, ?_⟩) ?_ ?_
    rotate_left
    ·intro w'
     go_simp
     with_reducible rfl
    rotate_left
    ·simp only [Act.put, sA, sB, sC, i64_w, i32_w]
     rfl
    refine pure_ (i := 2) (N := some 19) (v := ?_) (a' := ?_) (bT 6 3) rfl rfl (by kernel_rfl) (fun _ _ _ h => h) (Or.inl ⟨by rfl, ?_⟩) ?_ ?_
    rotate_left
    ·intro w'
     go_simp
     with_reducible rfl
    rotate_left
    ·simp only [Act.put, sA, sB, sC, i64_w, i32_w]
     rfl
    refine take_ (i := 3) (N := some 20) (v := ?_) (a' := ?_) (bT 6 4) rfl rfl (by kernel_rfl) (fun _ _ _ h => h) (Or.inl ⟨by rfl, ?_⟩) hHeld ?_ ?_
    rotate_left
    ·rintro w' ⟨s0, s1, s2, s3, s4, s5, s6, s7, s8, s9, s10, s11⟩
     go_simp
     with_reducible rfl
    rotate_left
    ·simp only [Act.put, sA, sB, sC, i64_w, i32_w]
     rfl
    refine take_ (i := 4) (N := some 21) (v := ?_) (a' := ?_) (bT 6 5) rfl rfl (by kernel_rfl) (fun _ _ _ h => h) (Or.inl ⟨by rfl, ?_⟩) hHeld ?_ ?_
    rotate_left
    ·rintro w' ⟨s0, s1, s2, s3, s4, s5, s6, s7, s8, s9, s10, s11⟩
     go_simp
     with_reducible rfl
    rotate_left
    ·simp only [Act.put, sA, sB, sC, i64_w, i32_w]
     rfl
    refine one_ (i := 5) (N := some 22) (bT 6 6) rfl rfl (by kernel_rfl) (by decide) (fun K hK => ?_)
    refine goes_ Try.func44 (by kernel_rfl) rfl #[.agg #[.int .i64 ((rd_T41 l0 (ji5)).f0.f0), .int .i64 ((rd_T41 l0 (ji5)).f0.f1), .int .i64 ((rd_T41 l0 (ji5)).f0.f2), .int .i64 ((rd_T41 l0 (ji5)).f0.f3), .int .i64 ((rd_T41 l0 (ji5)).f1.f0), .int .i64 ((rd_T41 l0 (ji5)).f1.f1)], .agg #[.int .i64 a1_0, .int .i64 a1_1, .int .i64 a1_2, .int .i64 a1_3, .int .i64 a1_4, .int .i64 a1_5]] (by rfl) rfl rfl (by (try simp only [List.map_toArray, List.map_cons, List.map_nil]); first | done | (simp only [hji5]; rfl) | rfl | (simp only [List.length_drop, List.length_take]; rfl)) ?_
    with_reducible refine (spec_l05Less.calls _ _ _ _ _ _ _ _ _ _ _ _ _ _ _ A8.out).mono ?_
    rintro e w11 ⟨rfl, hb⟩
    refine ⟨_, rfl, ?_⟩
    replace BK216 := bB BK216 hb
    replace HB := bS1 HB GE216 hb
    (try clear hb)
    (try clear hb2)
    (try clear hk)
    (try clear hi)
    refine hK.out _ _ (cb6 BK216 (ex6 HB hw217_0 hw217_1 hw217_2 hw217_3 hw217_4 hw217_5)).out (fun hHeld => ?_)
    clear hK K
    refine norm_ (a' := ?_) ?_ ?_
    rotate_left
    ·show Act.put _ (some 22) _ = _
     simp only [Act.put, sA, sB, sC, i64_w, i32_w]
     rfl
    refine done_ (by kernel_rfl) ?_
    try go_wp2
    go_roundg k1
    case measure => have := HK1.out; omega
   ·case rel => exact ⟨(wrap64 ((ji5) + 1)), (x6_1), (by first | rfl | (simp; done) | (simp only [← hji5] <;> (first | rfl | simp)) | (simp [*]; done)), (by first | rfl | (simp; done) | (simp [*]; done)), H', ⟨by have := HK1.out; omega⟩, ⟨bkp BK216⟩, ⟨bbw1 HB GE216⟩⟩
   ·case rel => exact ⟨(x5_1), (ji5), (by first | rfl | (simp; done) | (simp [*]; done)), (by first | rfl | (simp; done) | (simp only [← hji5] <;> (first | rfl | simp)) | (simp [*]; done)), H', ⟨by have := HK1.out; omega⟩, ⟨bkp BK216⟩, ⟨bbw1 HB GE216⟩⟩

end Go.Proofs.Ytdodghjnlekgeaa.PA
