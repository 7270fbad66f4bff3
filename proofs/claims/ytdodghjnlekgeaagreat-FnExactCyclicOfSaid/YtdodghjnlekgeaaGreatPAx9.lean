import Derived.Test.YtdodghjnlekgeaaGreatPAx0
import Derived.Test.YtdodghjnlekgeaaGreatPAx7
namespace Go.Proofs.YtdodghjnlekgeaaGreat.PA
open Go.RowKit Go.Proofs.YtdodghjnlekgeaaGreatW.PrintWords Go.Proofs.YtdodghjnlekgeaaGreatW.PrintLast Go.Proofs.YtdodghjnlekgeaaGreatW.PrintMore
attribute [local go_sem] max2_int min2_int max_two min_two max_three min_three max_four min_four   -- for this text's walks alone
set_option linter.unusedVariables false
set_option maxHeartbeats 8000000
set_option maxRecDepth 100000
set_option linter.unusedSimpArgs false
def spec_IsFrame.f (a0 : Int) : Option (Bool) := if a0 = 0 then (some true) else (some (a0 == 1))
theorem spec_IsFrame.calls (a0 : Int) (r : Bool) (w : World) (h : spec_IsFrame.f a0 = some r) :
  Calls Tryz.prog 90 #[.int .i64 a0] w fun e w' => e = .returned (.bool r) ∧ Drawn0 w w' := by
 have H : (if a0 = 0 then (some true) else (some (a0 == 1))) = some r := h
 clear h
 by_cases c2 : a0 = 0
 ·rw [if_pos c2] at H
  have c2b0 : (a0 == 0) = true := beq_iff_eq.mpr c2
  have c2b1 : (a0 != 0) = false := bne_eq_false_iff_eq.mpr c2
  clear c2
  obtain rfl := Option.some.inj H
  go_enter Tryz.func90, Tryz.ntmps90
  go_wp2
  go_ret
  exact ⟨by first | rfl | (simp; done) | (simp [*]; done), by repeat (first | exact Drawn0.refl _ | apply Drawn0.step)⟩
 ·rw [if_neg c2] at H
  have c2b0 : (a0 == 0) = false := beq_eq_false_iff_ne.mpr c2
  have c2b1 : (a0 != 0) = true := bne_iff_ne.mpr c2
  obtain rfl := Option.some.inj H
  go_enter Tryz.func90, Tryz.ntmps90
  go_wp2
  go_ret
  exact ⟨by first | rfl | (simp; done) | (simp [*]; done), by repeat (first | exact Drawn0.refl _ | apply Drawn0.step)⟩
def spec_l01In.f (a0 : Int) (a1 : Int) (a2 : Int) : Option (Bool) := if a0 ≥ a1 then (some (decide (a0 ≤ a2))) else (some false)
theorem spec_l01In.calls (a0 : Int) (a1 : Int) (a2 : Int) (r : Bool) (w : World) (h : spec_l01In.f a0 a1 a2 = some r) :
  Calls Tryz.prog 79 #[.int .i64 a0, .int .i64 a1, .int .i64 a2] w fun e w' => e = .returned (.bool r) ∧ Drawn0 w w' := by
 have H : (if a0 ≥ a1 then (some (decide (a0 ≤ a2))) else (some false)) = some r := h
 clear h
 by_cases c4 : a0 ≥ a1
 ·rw [if_pos c4] at H
  have c4b0 : decide (a1 ≤ a0) = true := decide_eq_true c4
  clear c4
  obtain rfl := Option.some.inj H
  go_enter Tryz.func79, Tryz.ntmps79
  go_wp2
  go_ret
  exact ⟨by first | rfl | (simp; done) | (simp [*]; done), by repeat (first | exact Drawn0.refl _ | apply Drawn0.step)⟩
 ·rw [if_neg c4] at H
  have c4b0 : decide (a1 ≤ a0) = false := decide_eq_false c4
  clear c4
  obtain rfl := Option.some.inj H
  go_enter Tryz.func79, Tryz.ntmps79
  go_wp2
  go_ret
  exact ⟨by first | rfl | (simp; done) | (simp [*]; done), by repeat (first | exact Drawn0.refl _ | apply Drawn0.step)⟩
def spec_IsLattice.f (a0_0 : Int) (a0_1 : Int) (a0_2 : Int) : Option (Bool) := (spec_l01In.f a0_0 1 64).bind fun t260 => (if t260 = true then ((spec_l01In.f a0_2 1 64).bind fun t261 => (if t261 = true then ((spec_l01In.f a0_1 0 (wrap64 (a0_0 - 1))).bind fun t262 => (if t262 = true then (some (decide ((wrap64 (a0_0 * a0_2)) ≤ 64))) else (some false))) else (some false))) else (some false))
theorem spec_IsLattice.calls (a0_0 : Int) (a0_1 : Int) (a0_2 : Int) (r : Bool) (w : World) (h : spec_IsLattice.f a0_0 a0_1 a0_2 = some r) :
  Calls Tryz.prog 91 #[.agg #[.int .i64 a0_0, .int .i64 a0_1, .int .i64 a0_2]] w fun e w' => e = .returned (.bool r) ∧ Below w.heap.size w w' := by
 have hu29 := Tryz.underlying29
 have HB := asd (Below.refl w.heap.size w)
 have H : ((spec_l01In.f a0_0 1 64).bind fun t260 => (if t260 = true then ((spec_l01In.f a0_2 1 64).bind fun t261 => (if t261 = true then ((spec_l01In.f a0_1 0 (wrap64 (a0_0 - 1))).bind fun t262 => (if t262 = true then (some (decide ((wrap64 (a0_0 * a0_2)) ≤ 64))) else (some false))) else (some false))) else (some false))) = some r := h
 clear h
 obtain ⟨t260, A2, H⟩ := ob H
 try dsimp only at H
 by_cases c3 : t260 = true
 subst c3
 replace H := ifT H
 obtain ⟨t261, A4, H⟩ := ob H
 try dsimp only at H
 by_cases c5 : t261 = true
 subst c5
 replace H := ifT H
 obtain ⟨t262, A6, H⟩ := ob H
 try dsimp only at H
 by_cases c7 : t262 = true
 subst c7
 replace H := ifT H
 obtain rfl := Option.some.inj H
 rotate_left
 replace c7 := Bool.eq_false_iff.mpr c7
 subst c7
 replace H := ifF H
 obtain rfl := Option.some.inj H
 rotate_left
 replace c5 := Bool.eq_false_iff.mpr c5
 subst c5
 replace H := ifF H
 obtain rfl := Option.some.inj H
 rotate_left
 replace c3 := Bool.eq_false_iff.mpr c3
 subst c3
 replace H := ifF H
 obtain rfl := Option.some.inj H
 rotate_left
 all_goals
  go_enter Tryz.func91, Tryz.ntmps91
  go_wp2_with (first | ((with_reducible refine gd 1 rfl ?_); refine bx #[.int .i64 a0_0, .int .i64 a0_1, .int .i64 a0_2] 29 ?_; intro gb259 hg w8 BK259 hb; have GE259 := ngw0 hg HB; replace HB := bS0 HB hb; clear hb hg; obtain ⟨hcz9_0, hcz9_1, hcz9_2, hfz9_0, hfz9_1, hfz9_2⟩ := bz3 BK259) | ((with_reducible refine gate_callee (f := 79) rfl ?_); refine gl 5 Tryz.func79 #[.int .i64 a0_0, .int .i64 1, .int .i64 64] ?_; (with_reducible refine (spec_l01In.calls _ _ _ _ _ A2.out).mono ?_); rintro e w' ⟨rfl, ⟨nd, rfl⟩⟩; refine ⟨_, rfl, ?_⟩) | (go_at_call 79; (with_reducible refine (spec_l01In.calls _ _ _ _ _ A4.out).mono ?_); rintro e w' ⟨rfl, ⟨nd, rfl⟩⟩) | (go_at_call 79; (with_reducible refine (spec_l01In.calls _ _ _ _ _ A6.out).mono ?_); rintro e w' ⟨rfl, ⟨nd, rfl⟩⟩))
  go_ret
  exact er (bbw1 HB GE259)
def spec_l04Code.f (a0 : Int) (a1_0 : Int) (a1_1 : Int) (a1_2 : Int) : Option (Int) := (spec_IsFrame.f a0).bind fun t264 => (if t264 = true then ((spec_IsLattice.f a1_0 a1_1 a1_2).bind fun t265 => (if t265 = true then (some 0) else (some 1))) else (some 1))
theorem spec_l04Code.calls (a0 : Int) (a1_0 : Int) (a1_1 : Int) (a1_2 : Int) (r : Int) (w : World) (h : spec_l04Code.f a0 a1_0 a1_1 a1_2 = some r) :
  Calls Tryz.prog 60 #[.int .i64 a0, .agg #[.int .i64 a1_0, .int .i64 a1_1, .int .i64 a1_2]] w fun e w' => e = .returned (.int .i64 r) ∧ Below w.heap.size w w' := by
 have hu29 := Tryz.underlying29
 have HB := asd (Below.refl w.heap.size w)
 have H : ((spec_IsFrame.f a0).bind fun t264 => (if t264 = true then ((spec_IsLattice.f a1_0 a1_1 a1_2).bind fun t265 => (if t265 = true then (some 0) else (some 1))) else (some 1))) = some r := h
 clear h
 obtain ⟨t264, A3, H⟩ := ob H
 try dsimp only at H
 by_cases c4 : t264 = true
 subst c4
 replace H := ifT H
 obtain ⟨t265, A5, H⟩ := ob H
 try dsimp only at H
 by_cases c6 : t265 = true
 subst c6
 replace H := ifT H
 obtain rfl := Option.some.inj H
 rotate_left
 replace c6 := Bool.eq_false_iff.mpr c6
 subst c6
 replace H := ifF H
 obtain rfl := Option.some.inj H
 rotate_left
 replace c4 := Bool.eq_false_iff.mpr c4
 subst c4
 replace H := ifF H
 obtain rfl := Option.some.inj H
 rotate_left
 all_goals
  go_enter Tryz.func60, Tryz.ntmps60
 rotate_left 2
 ·go_wp2_with (first | ((with_reducible refine gd 3 rfl ?_); refine bx #[.int .i64 a1_0, .int .i64 a1_1, .int .i64 a1_2] 29 ?_; intro gb263 hg w13 BK263 hb; have GE263 := ngw0 hg HB; replace HB := bS0 HB hb; clear hb hg) | ((with_reducible refine gate_callee (f := 90) rfl ?_); refine gl 6 Tryz.func90 #[.int .i64 a0] ?_; (with_reducible refine (spec_IsFrame.calls _ _ _ A3.out).mono ?_); rintro e w' ⟨rfl, ⟨nd, rfl⟩⟩; refine ⟨_, rfl, ?_⟩))
  go_ret
  exact er (bbw1 HB GE263)
 all_goals
  go_wp2_with (first | ((with_reducible refine gd 3 rfl ?_); refine bx #[.int .i64 a1_0, .int .i64 a1_1, .int .i64 a1_2] 29 ?_; intro gb263 hg w7 BK263 hb; have GE263 := ngw0 hg HB; replace HB := bS0 HB hb; clear hb hg) | ((with_reducible refine gate_callee (f := 90) rfl ?_); refine gl 6 Tryz.func90 #[.int .i64 a0] ?_; (with_reducible refine (spec_IsFrame.calls _ _ _ A3.out).mono ?_); rintro e w' ⟨rfl, ⟨nd, rfl⟩⟩; refine ⟨_, rfl, ?_⟩; have hcz8_0 : w7.cell? ⟨gb263, 0, none⟩ = some (.int .i64 a1_0) := bcl BK263 0; have hcz8_1 : w7.cell? ⟨gb263, 1, none⟩ = some (.int .i64 a1_1) := bcl BK263 1; have hcz8_2 : w7.cell? ⟨gb263, 2, none⟩ = some (.int .i64 a1_2) := bcl BK263 2; have hfz8_0 := blk_frozen BK263.out 0; have hfz8_1 := blk_frozen BK263.out 1; have hfz8_2 := blk_frozen BK263.out 2) | (go_at_call 91; (with_reducible refine (spec_IsLattice.calls _ _ _ _ _ A5.out).mono ?_); rintro e w9 ⟨rfl, hb⟩; replace BK263 := bB BK263 hb; replace HB := bS1 HB GE263 hb; (try clear hb)))
  go_ret
  exact er (bbw1 HB GE263)
def spec_l06Code.f (a0 : Int) (a1_0 : Int) (a1_1 : Int) (a1_2 : Int) (a2 : Bool) : Option (Int) := (spec_l04Code.f a0 a1_0 a1_1 a1_2).bind fun t267 => (if t267 = 0 then (if a2 = true then (some t267) else (some 2)) else (some t267))
theorem spec_l06Code.calls (a0 : Int) (a1_0 : Int) (a1_1 : Int) (a1_2 : Int) (a2 : Bool) (r : Int) (w : World) (h : spec_l06Code.f a0 a1_0 a1_1 a1_2 a2 = some r) :
  Calls Tryz.prog 31 #[.int .i64 a0, .agg #[.int .i64 a1_0, .int .i64 a1_1, .int .i64 a1_2], .bool a2] w fun e w' => e = .returned (.int .i64 r) ∧ Below w.heap.size w w' := by
 have hu29 := Tryz.underlying29
 have HB := asd (Below.refl w.heap.size w)
 have H : ((spec_l04Code.f a0 a1_0 a1_1 a1_2).bind fun t267 => (if t267 = 0 then (if a2 = true then (some t267) else (some 2)) else (some t267))) = some r := h
 clear h
 obtain ⟨t267, A4, H⟩ := ob H
 try dsimp only at H
 by_cases c5 : t267 = 0
 rw [if_pos c5] at H
 have c5b0 : (t267 == 0) = true := beq_iff_eq.mpr c5
 have c5b1 : (t267 != 0) = false := bne_eq_false_iff_eq.mpr c5
 clear c5
 by_cases c6 : a2 = true
 subst c6
 replace H := ifT H
 obtain rfl := Option.some.inj H
 rotate_left
 replace c6 := Bool.eq_false_iff.mpr c6
 subst c6
 replace H := ifF H
 obtain rfl := Option.some.inj H
 rotate_left
 rw [if_neg c5] at H
 have c5b0 : (t267 == 0) = false := beq_eq_false_iff_ne.mpr c5
 have c5b1 : (t267 != 0) = true := bne_iff_ne.mpr c5
 obtain rfl := Option.some.inj H
 rotate_left
 all_goals
  go_enter Tryz.func31, Tryz.ntmps31
  go_wp2_with (first | ((with_reducible refine gd 4 rfl ?_); refine bx #[.int .i64 a1_0, .int .i64 a1_1, .int .i64 a1_2] 29 ?_; intro gb266 hg w7 BK266 hb; have GE266 := ngw0 hg HB; replace HB := bS0 HB hb; clear hb hg; obtain ⟨hcz8_0, hcz8_1, hcz8_2, hfz8_0, hfz8_1, hfz8_2⟩ := bz3 BK266) | ((with_reducible refine gate_callee (f := 60) rfl ?_); refine gl 10 Tryz.func60 #[.int .i64 a0, .agg #[.int .i64 a1_0, .int .i64 a1_1, .int .i64 a1_2]] ?_; (with_reducible refine (spec_l04Code.calls _ _ _ _ _ _ A4.out).mono ?_); rintro e w9 ⟨rfl, hb⟩; refine ⟨_, rfl, ?_⟩; replace BK266 := bB BK266 hb; replace HB := bS1 HB GE266 hb; (try clear hb)))
  go_ret
  exact er (bbw1 HB GE266)
def spec_IsVec.f (a0_0 : Int) (a0_1 : Int) : Option (Bool) := (spec_l01In.f a0_0 (-1000) 1000).bind fun t269 => (if t269 = true then ((spec_l01In.f a0_1 (-1000) 1000).bind fun t270 => (some t270)) else (some false))
theorem spec_IsVec.calls (a0_0 : Int) (a0_1 : Int) (r : Bool) (w : World) (h : spec_IsVec.f a0_0 a0_1 = some r) :
  Calls Tryz.prog 40 #[.agg #[.int .i64 a0_0, .int .i64 a0_1]] w fun e w' => e = .returned (.bool r) ∧ Below w.heap.size w w' := by
 have hu38 := Tryz.underlying38
 have HB := asd (Below.refl w.heap.size w)
 have H : ((spec_l01In.f a0_0 (-1000) 1000).bind fun t269 => (if t269 = true then ((spec_l01In.f a0_1 (-1000) 1000).bind fun t270 => (some t270)) else (some false))) = some r := h
 clear h
 obtain ⟨t269, A2, H⟩ := ob H
 try dsimp only at H
 by_cases c3 : t269 = true
 subst c3
 replace H := ifT H
 obtain ⟨t270, A4, H⟩ := ob H
 try dsimp only at H
 obtain rfl := Option.some.inj H
 rotate_left
 replace c3 := Bool.eq_false_iff.mpr c3
 subst c3
 replace H := ifF H
 obtain rfl := Option.some.inj H
 rotate_left
 all_goals
  go_enter Tryz.func40, Tryz.ntmps40
  go_wp2_with (first | ((with_reducible refine gd 1 rfl ?_); refine bx #[.int .i64 a0_0, .int .i64 a0_1] 38 ?_; intro gb268 hg w5 BK268 hb; have GE268 := ngw0 hg HB; replace HB := bS0 HB hb; clear hb hg; obtain ⟨hcz6_0, hcz6_1, hfz6_0, hfz6_1⟩ := bz2 BK268) | ((with_reducible refine gate_callee (f := 79) rfl ?_); refine gl 5 Tryz.func79 #[.int .i64 a0_0, .int .i64 (-1000), .int .i64 1000] ?_; (with_reducible refine (spec_l01In.calls _ _ _ _ _ A2.out).mono ?_); rintro e w' ⟨rfl, ⟨nd, rfl⟩⟩; refine ⟨_, rfl, ?_⟩) | (go_at_call 79; (with_reducible refine (spec_l01In.calls _ _ _ _ _ A4.out).mono ?_); rintro e w' ⟨rfl, ⟨nd, rfl⟩⟩))
  go_ret
  exact er (bbw1 HB GE268)
def spec_l02Small.f (a0_0 : Int) (a0_1 : Int) (a0_2 : Int) (a0_3 : Int) : Option (Bool) := (spec_IsVec.f a0_0 a0_1).bind fun t272 => (if t272 = true then ((spec_IsVec.f a0_2 a0_3).bind fun t273 => (some t273)) else (some false))
theorem spec_l02Small.calls (a0_0 : Int) (a0_1 : Int) (a0_2 : Int) (a0_3 : Int) (r : Bool) (w : World) (h : spec_l02Small.f a0_0 a0_1 a0_2 a0_3 = some r) :
  Calls Tryz.prog 116 #[.agg #[.int .i64 a0_0, .int .i64 a0_1, .int .i64 a0_2, .int .i64 a0_3]] w fun e w' => e = .returned (.bool r) ∧ Below w.heap.size w w' := by
 have hu46 := Tryz.underlying46
 have hu38 := Tryz.underlying38
 have HB := asd (Below.refl w.heap.size w)
 have H : ((spec_IsVec.f a0_0 a0_1).bind fun t272 => (if t272 = true then ((spec_IsVec.f a0_2 a0_3).bind fun t273 => (some t273)) else (some false))) = some r := h
 clear h
 obtain ⟨t272, A2, H⟩ := ob H
 try dsimp only at H
 by_cases c3 : t272 = true
 ·subst c3
  replace H := ifT H
  obtain ⟨t273, A4, H⟩ := ob H
  try dsimp only at H
  obtain rfl := Option.some.inj H
  go_enter Tryz.func116, Tryz.ntmps116
  go_wp2_with (first | ((with_reducible refine gd 1 rfl ?_); refine bx #[.int .i64 a0_0, .int .i64 a0_1, .int .i64 a0_2, .int .i64 a0_3] 46 ?_; intro gb271 hg w5 BK271 hb; have GE271 := ngw0 hg HB; replace HB := bS0 HB hb; clear hb hg; obtain ⟨hcz6_0, hcz6_1, hcz6_2, hcz6_3, hfz6_0, hfz6_1, hfz6_2, hfz6_3⟩ := bz4 BK271) | ((with_reducible refine gate_callee (f := 40) rfl ?_); refine gl 8 Tryz.func40 #[.agg #[.int .i64 a0_0, .int .i64 a0_1]] ?_; (with_reducible refine (spec_IsVec.calls _ _ _ _ A2.out).mono ?_); rintro e w7 ⟨rfl, hb⟩; refine ⟨_, rfl, ?_⟩; replace BK271 := bB BK271 hb; replace HB := bS1 HB GE271 hb; (try clear hb); obtain ⟨hcz8_0, hcz8_1, hcz8_2, hcz8_3, hfz8_0, hfz8_1, hfz8_2, hfz8_3⟩ := bz4 BK271) | (go_at_call 40; (with_reducible refine (spec_IsVec.calls _ _ _ _ A4.out).mono ?_); rintro e w9 ⟨rfl, hb⟩; replace BK271 := bB BK271 hb; replace HB := bS1 HB GE271 hb; (try clear hb)))
  go_ret
  exact er (bbw1 HB GE271)
 ·replace c3 := Bool.eq_false_iff.mpr c3
  subst c3
  replace H := ifF H
  obtain rfl := Option.some.inj H
  go_enter Tryz.func116, Tryz.ntmps116
  go_wp2_with (first | ((with_reducible refine gd 1 rfl ?_); refine bx #[.int .i64 a0_0, .int .i64 a0_1, .int .i64 a0_2, .int .i64 a0_3] 46 ?_; intro gb271 hg w10 BK271 hb; have GE271 := ngw0 hg HB; replace HB := bS0 HB hb; clear hb hg; obtain ⟨hcz11_0, hcz11_1, hcz11_2, hcz11_3, hfz11_0, hfz11_1, hfz11_2, hfz11_3⟩ := bz4 BK271) | ((with_reducible refine gate_callee (f := 40) rfl ?_); refine gl 8 Tryz.func40 #[.agg #[.int .i64 a0_0, .int .i64 a0_1]] ?_; (with_reducible refine (spec_IsVec.calls _ _ _ _ A2.out).mono ?_); rintro e w12 ⟨rfl, hb⟩; refine ⟨_, rfl, ?_⟩; replace BK271 := bB BK271 hb; replace HB := bS1 HB GE271 hb; (try clear hb)))
  go_ret
  exact er (bbw1 HB GE271)
def spec_l02Det.f (a0_0 : Int) (a0_1 : Int) (a0_2 : Int) (a0_3 : Int) : Option (Int) := some (wrap64 ((wrap64 (a0_0 * a0_3)) - (wrap64 (a0_1 * a0_2))))
theorem spec_l02Det.calls (a0_0 : Int) (a0_1 : Int) (a0_2 : Int) (a0_3 : Int) (r : Int) (w : World) (h : spec_l02Det.f a0_0 a0_1 a0_2 a0_3 = some r) :
  Calls Tryz.prog 117 #[.agg #[.int .i64 a0_0, .int .i64 a0_1, .int .i64 a0_2, .int .i64 a0_3]] w fun e w' => e = .returned (.int .i64 r) ∧ Below w.heap.size w w' := by
 have hu46 := Tryz.underlying46
 have HB := asd (Below.refl w.heap.size w)
 have H : (some (wrap64 ((wrap64 (a0_0 * a0_3)) - (wrap64 (a0_1 * a0_2))))) = some r := h
 clear h
 obtain rfl := Option.some.inj H
 go_enter Tryz.func117, Tryz.ntmps117
 go_wp2_with (first | ((with_reducible refine gd 1 rfl ?_); refine bx #[.int .i64 a0_0, .int .i64 a0_1, .int .i64 a0_2, .int .i64 a0_3] 46 ?_; intro gb274 hg w2 BK274 hb; have GE274 := ngw0 hg HB; replace HB := bS0 HB hb; clear hb hg; obtain ⟨hcz3_0, hcz3_1, hcz3_2, hcz3_3, hfz3_0, hfz3_1, hfz3_2, hfz3_3⟩ := bz4 BK274))
 go_ret
 exact er (bbw1 HB GE274)
def spec_IsMat.f (a0_0 : Int) (a0_1 : Int) (a0_2 : Int) (a0_3 : Int) : Option (Bool) := (spec_l02Small.f a0_0 a0_1 a0_2 a0_3).bind fun t276 => (if t276 = true then ((spec_l02Det.f a0_0 a0_1 a0_2 a0_3).bind fun t277 => (if t277 = 1 then (some true) else ((spec_l02Det.f a0_0 a0_1 a0_2 a0_3).bind fun t278 => (some (t278 == (-1)))))) else (some false))
theorem spec_IsMat.calls (a0_0 : Int) (a0_1 : Int) (a0_2 : Int) (a0_3 : Int) (r : Bool) (w : World) (h : spec_IsMat.f a0_0 a0_1 a0_2 a0_3 = some r) :
  Calls Tryz.prog 92 #[.agg #[.int .i64 a0_0, .int .i64 a0_1, .int .i64 a0_2, .int .i64 a0_3]] w fun e w' => e = .returned (.bool r) ∧ Below w.heap.size w w' := by
 have hu46 := Tryz.underlying46
 have HB := asd (Below.refl w.heap.size w)
 have H : ((spec_l02Small.f a0_0 a0_1 a0_2 a0_3).bind fun t276 => (if t276 = true then ((spec_l02Det.f a0_0 a0_1 a0_2 a0_3).bind fun t277 => (if t277 = 1 then (some true) else ((spec_l02Det.f a0_0 a0_1 a0_2 a0_3).bind fun t278 => (some (t278 == (-1)))))) else (some false))) = some r := h
 clear h
 obtain ⟨t276, A2, H⟩ := ob H
 try dsimp only at H
 by_cases c3 : t276 = true
 ·subst c3
  replace H := ifT H
  obtain ⟨t277, A4, H⟩ := ob H
  try dsimp only at H
  by_cases c5 : t277 = 1
  ·rw [if_pos c5] at H
   have c5b0 : (t277 == 1) = true := beq_iff_eq.mpr c5
   have c5b1 : (t277 != 1) = false := bne_eq_false_iff_eq.mpr c5
   clear c5
   obtain rfl := Option.some.inj H
   go_enter Tryz.func92, Tryz.ntmps92
   go_wp2_with (first | ((with_reducible refine gd 1 rfl ?_); refine bx #[.int .i64 a0_0, .int .i64 a0_1, .int .i64 a0_2, .int .i64 a0_3] 46 ?_; intro gb275 hg w6 BK275 hb; have GE275 := ngw0 hg HB; replace HB := bS0 HB hb; clear hb hg; obtain ⟨hcz7_0, hcz7_1, hcz7_2, hcz7_3, hfz7_0, hfz7_1, hfz7_2, hfz7_3⟩ := bz4 BK275) | ((with_reducible refine gate_callee (f := 116) rfl ?_); refine gl 4 Tryz.func116 #[.agg #[.int .i64 a0_0, .int .i64 a0_1, .int .i64 a0_2, .int .i64 a0_3]] ?_; (with_reducible refine (spec_l02Small.calls _ _ _ _ _ _ A2.out).mono ?_); rintro e w8 ⟨rfl, hb⟩; refine ⟨_, rfl, ?_⟩; replace BK275 := bB BK275 hb; replace HB := bS1 HB GE275 hb; (try clear hb); obtain ⟨hcz9_0, hcz9_1, hcz9_2, hcz9_3, hfz9_0, hfz9_1, hfz9_2, hfz9_3⟩ := bz4 BK275) | (go_at_call 117; (with_reducible refine (spec_l02Det.calls _ _ _ _ _ _ A4.out).mono ?_); rintro e w10 ⟨rfl, hb⟩; replace BK275 := bB BK275 hb; replace HB := bS1 HB GE275 hb; (try clear hb)))
   go_ret
   exact er (bbw1 HB GE275)
  ·rw [if_neg c5] at H
   have c5b0 : (t277 == 1) = false := beq_eq_false_iff_ne.mpr c5
   have c5b1 : (t277 != 1) = true := bne_iff_ne.mpr c5
   obtain ⟨t278, A11, H⟩ := ob H
   try dsimp only at H
   have e_ : t277 = t278 := Option.some.inj (A4.out.symm.trans A11.out)
   subst e_
   obtain rfl := Option.some.inj H
   go_enter Tryz.func92, Tryz.ntmps92
   go_wp2_with (first | ((with_reducible refine gd 1 rfl ?_); refine bx #[.int .i64 a0_0, .int .i64 a0_1, .int .i64 a0_2, .int .i64 a0_3] 46 ?_; intro gb275 hg w12 BK275 hb; have GE275 := ngw0 hg HB; replace HB := bS0 HB hb; clear hb hg; obtain ⟨hcz13_0, hcz13_1, hcz13_2, hcz13_3, hfz13_0, hfz13_1, hfz13_2, hfz13_3⟩ := bz4 BK275) | ((with_reducible refine gate_callee (f := 116) rfl ?_); refine gl 4 Tryz.func116 #[.agg #[.int .i64 a0_0, .int .i64 a0_1, .int .i64 a0_2, .int .i64 a0_3]] ?_; (with_reducible refine (spec_l02Small.calls _ _ _ _ _ _ A2.out).mono ?_); rintro e w14 ⟨rfl, hb⟩; refine ⟨_, rfl, ?_⟩; replace BK275 := bB BK275 hb; replace HB := bS1 HB GE275 hb; (try clear hb); obtain ⟨hcz15_0, hcz15_1, hcz15_2, hcz15_3, hfz15_0, hfz15_1, hfz15_2, hfz15_3⟩ := bz4 BK275) | (go_at_call 117; (with_reducible refine (spec_l02Det.calls _ _ _ _ _ _ A4.out).mono ?_); rintro e w16 ⟨rfl, hb⟩; replace BK275 := bB BK275 hb; replace HB := bS1 HB GE275 hb; (try clear hb); obtain ⟨hcz17_0, hcz17_1, hcz17_2, hcz17_3, hfz17_0, hfz17_1, hfz17_2, hfz17_3⟩ := bz4 BK275) | (go_at_call 117; (with_reducible refine (spec_l02Det.calls _ _ _ _ _ _ A11.out).mono ?_); rintro e w18 ⟨rfl, hb⟩; replace BK275 := bB BK275 hb; replace HB := bS1 HB GE275 hb; (try clear hb)))
   go_ret
   exact er (bbw1 HB GE275)
 ·replace c3 := Bool.eq_false_iff.mpr c3
  subst c3
  replace H := ifF H
  obtain rfl := Option.some.inj H
  go_enter Tryz.func92, Tryz.ntmps92
  go_wp2_with (first | ((with_reducible refine gd 1 rfl ?_); refine bx #[.int .i64 a0_0, .int .i64 a0_1, .int .i64 a0_2, .int .i64 a0_3] 46 ?_; intro gb275 hg w19 BK275 hb; have GE275 := ngw0 hg HB; replace HB := bS0 HB hb; clear hb hg; obtain ⟨hcz20_0, hcz20_1, hcz20_2, hcz20_3, hfz20_0, hfz20_1, hfz20_2, hfz20_3⟩ := bz4 BK275) | ((with_reducible refine gate_callee (f := 116) rfl ?_); refine gl 4 Tryz.func116 #[.agg #[.int .i64 a0_0, .int .i64 a0_1, .int .i64 a0_2, .int .i64 a0_3]] ?_; (with_reducible refine (spec_l02Small.calls _ _ _ _ _ _ A2.out).mono ?_); rintro e w21 ⟨rfl, hb⟩; refine ⟨_, rfl, ?_⟩; replace BK275 := bB BK275 hb; replace HB := bS1 HB GE275 hb; (try clear hb)))
  go_ret
  exact er (bbw1 HB GE275)
def spec_l04Norm.f (a0 : Int) (a1_0 : Int) (a1_1 : Int) : Option (Int) := if a0 = 1 then (some (wrap64 ((wrap64 ((wrap64 (a1_0 * a1_0)) + (wrap64 (a1_1 * a1_1)))) + (wrap64 (a1_0 * a1_1))))) else (some (wrap64 ((wrap64 (a1_0 * a1_0)) + (wrap64 (a1_1 * a1_1)))))
theorem spec_l04Norm.calls (a0 : Int) (a1_0 : Int) (a1_1 : Int) (r : Int) (w : World) (h : spec_l04Norm.f a0 a1_0 a1_1 = some r) :
  Calls Tryz.prog 118 #[.int .i64 a0, .agg #[.int .i64 a1_0, .int .i64 a1_1]] w fun e w' => e = .returned (.int .i64 r) ∧ Below w.heap.size w w' := by
 have hu38 := Tryz.underlying38
 have HB := asd (Below.refl w.heap.size w)
 have H : (if a0 = 1 then (some (wrap64 ((wrap64 ((wrap64 (a1_0 * a1_0)) + (wrap64 (a1_1 * a1_1)))) + (wrap64 (a1_0 * a1_1))))) else (some (wrap64 ((wrap64 (a1_0 * a1_0)) + (wrap64 (a1_1 * a1_1)))))) = some r := h
 clear h
 by_cases c3 : a0 = 1
 rw [if_pos c3] at H
 have c3b0 : (a0 == 1) = true := beq_iff_eq.mpr c3
 have c3b1 : (a0 != 1) = false := bne_eq_false_iff_eq.mpr c3
 clear c3
 obtain rfl := Option.some.inj H
 rotate_left
 rw [if_neg c3] at H
 have c3b0 : (a0 == 1) = false := beq_eq_false_iff_ne.mpr c3
 have c3b1 : (a0 != 1) = true := bne_iff_ne.mpr c3
 obtain rfl := Option.some.inj H
 rotate_left
 all_goals
  go_enter Tryz.func118, Tryz.ntmps118
  go_wp2_with (first | ((with_reducible refine gd 3 rfl ?_); refine bx #[.int .i64 a1_0, .int .i64 a1_1] 38 ?_; intro gb279 hg w4 BK279 hb; have GE279 := ngw0 hg HB; replace HB := bS0 HB hb; clear hb hg; obtain ⟨hcz5_0, hcz5_1, hfz5_0, hfz5_1⟩ := bz2 BK279))
  go_ret
  exact er (bbw1 HB GE279)
def spec_l04Keeps.f (a0 : Int) (a1_0 : Int) (a1_1 : Int) (a1_2 : Int) (a1_3 : Int) : Option (Bool) := (spec_l04Norm.f a0 a1_0 a1_2).bind fun t283 => (if t283 = 1 then ((spec_l04Norm.f a0 a1_1 a1_3).bind fun t284 => (if t284 = 1 then ((spec_l01Add.f a1_0 a1_2 a1_1 a1_3).bind fun bt285 => ((spec_l04Norm.f a0 bt285.1 bt285.2).bind fun t287 => (some (t287 == (wrap64 (2 + a0)))))) else (some false))) else (some false))
def spec_l04Keeps.T1 : Bool × List (List Nat × List Nat) := (true, [([], []), ([0], [0]), ([], []), ([2], [2]), ([1, 3], [1, 3]), ([], []), ([5], [5]), ([], []), ([7], [7]), ([6, 8], [6, 8]), ([], []), ([], []), ([10, 4, 0, 1, 2, 3, 4, 10, 11], [4, 10]), ([11, 9, 12, 0, 1, 2, 3, 4, 5, 6, 7, 8, 9, 10, 11, 12], [9, 11])])
def spec_l04Keeps.B1 : List Nat := [0, 1, 0, 4, 15, 0, 32, 0, 128, 480, 0, 0, 3103, 8191]
theorem spec_l04Keeps.tab1 : rtab .any (opsOf Tryz.f93 1) = spec_l04Keeps.T1 := by kernel_rfl
theorem spec_l04Keeps.bits1 : waitsOk spec_l04Keeps.T1.2 spec_l04Keeps.B1 = true := by kernel_rfl
theorem spec_l04Keeps.calls (a0 : Int) (a1_0 : Int) (a1_1 : Int) (a1_2 : Int) (a1_3 : Int) (r : Bool) (w : World) (h : spec_l04Keeps.f a0 a1_0 a1_1 a1_2 a1_3 = some r) :
  Calls Tryz.prog 93 #[.int .i64 a0, .agg #[.int .i64 a1_0, .int .i64 a1_1, .int .i64 a1_2, .int .i64 a1_3]] w fun e w' => e = .returned (.bool r) ∧ Below w.heap.size w w' := by
 have hu46 := Tryz.underlying46
 have hu38 := Tryz.underlying38
 have HB := asd (Below.refl w.heap.size w)
 have H : ((spec_l04Norm.f a0 a1_0 a1_2).bind fun t283 => (if t283 = 1 then ((spec_l04Norm.f a0 a1_1 a1_3).bind fun t284 => (if t284 = 1 then ((spec_l01Add.f a1_0 a1_2 a1_1 a1_3).bind fun bt285 => ((spec_l04Norm.f a0 bt285.1 bt285.2).bind fun t287 => (some (t287 == (wrap64 (2 + a0)))))) else (some false))) else (some false))) = some r := h
 clear h
 obtain ⟨t283, A3, H⟩ := ob H
 try dsimp only at H
 by_cases c4 : t283 = 1
 rw [if_pos c4] at H
 have c4b0 : (t283 == 1) = true := beq_iff_eq.mpr c4
 have c4b1 : (t283 != 1) = false := bne_eq_false_iff_eq.mpr c4
 clear c4
 obtain ⟨t284, A5, H⟩ := ob H
 try dsimp only at H
 by_cases c6 : t284 = 1
 rw [if_pos c6] at H
 have c6b0 : (t284 == 1) = true := beq_iff_eq.mpr c6
 have c6b1 : (t284 != 1) = false := bne_eq_false_iff_eq.mpr c6
 clear c6
 obtain ⟨⟨t285, t286⟩, A7, H⟩ := ob H
 try dsimp only at H
 obtain ⟨t287, A8, H⟩ := ob H
 try dsimp only at H
 obtain rfl := Option.some.inj H
 rotate_left
 rw [if_neg c6] at H
 have c6b0 : (t284 == 1) = false := beq_eq_false_iff_ne.mpr c6
 have c6b1 : (t284 != 1) = true := bne_iff_ne.mpr c6
 obtain rfl := Option.some.inj H
 rotate_left
 rw [if_neg c4] at H
 have c4b0 : (t283 == 1) = false := beq_eq_false_iff_ne.mpr c4
 have c4b1 : (t283 != 1) = true := bne_iff_ne.mpr c4
 obtain rfl := Option.some.inj H
 rotate_left
 all_goals
  go_enter Tryz.func93, Tryz.ntmps93
  try go_wp2_with (first | ((with_reducible refine gd 3 rfl ?_); refine bx #[.int .i64 a1_0, .int .i64 a1_1, .int .i64 a1_2, .int .i64 a1_3] 46 ?_; intro gb280 hg w9 BK280 hb; have GE280 := ngw0 hg HB; replace HB := bS0 HB hb; clear hb hg))
  replace BK280 := asd (blk_drew BK280.out)
  replace HB := asd (below_drew1 HB.out)
  refine sh 14 (eb4 BK280) (fun hHeld => ?_); refine with_tabW spec_l04Keeps.tab1 spec_l04Keeps.bits1 (fun HT_ HW_ => ?_)
  generalize w9.drew = w10 at BK280 HB hHeld ⊢
  refine pu 0 (some 7) (bT 14 1) HT_ ?_
  refine pu 2 (some 9) (bs 14 5) HT_ ?_
  refine pu 5 (some 12) (bs 14 37) HT_ ?_
  refine pu 7 (some 14) (bs 14 165) HT_ ?_
  refine ta 1 (some 8) (bs 14 167) HT_ HW_ hHeld ?_
  refine ta 3 (some 10) (bs 14 175) HT_ HW_ hHeld ?_
  refine pu 4 (some 11) (bs 14 191) HT_ ?_
  refine ta 6 (some 13) (bT 14 8) HT_ HW_ hHeld ?_
  refine ta 8 (some 15) (bT 14 9) HT_ HW_ hHeld ?_
  refine pu 9 (some 16) (bT 14 10) HT_ ?_
  refine join_ (σ := Nat × Nat) 2 (bT 14 12) (fun s_ => [(5, .pointer (some ⟨s_.1, 0, none⟩)), (6, .pointer (some ⟨s_.2, 0, none⟩))]) (fun s_ w' => (w'.cell? ⟨gb280, 0, none⟩ = some (.int .i64 a1_0) ∧ w'.cell? ⟨gb280, 1, none⟩ = some (.int .i64 a1_1) ∧ w'.cell? ⟨gb280, 2, none⟩ = some (.int .i64 a1_2) ∧ w'.cell? ⟨gb280, 3, none⟩ = some (.int .i64 a1_3)) ∧ (w'.heap[gb280]? = some (.cells #[.int .i64 a1_0, .int .i64 a1_1, .int .i64 a1_2, .int .i64 a1_3] 46 (0, 0))) ∧ (w'.heap[s_.1]? = some (.cells #[.int .i64 0, .int .i64 0] 38 (0, 0))) ∧ (w'.heap[s_.2]? = some (.cells #[.int .i64 0, .int .i64 0] 38 (0, 0))) ∧ (w.heap.size ≤ s_.1) ∧ (w.heap.size ≤ s_.1) ∧ (gb280 ≠ s_.1) ∧ (s_.1 ≠ gb280) ∧ (s_.2 ≠ s_.1) ∧ (s_.1 ≠ s_.2) ∧ (w.heap.size ≤ s_.2) ∧ (w.heap.size ≤ s_.2) ∧ (gb280 ≠ s_.2) ∧ (s_.2 ≠ gb280) ∧ (Below w.heap.size w w')) ?_ ?_
  rotate_left
  ·intro hCont
   refine two_ (i := 10) (j := 11) (Ni := some 5) (Nj := some 6) (bT 14 11) (bs 14 3071) rfl rfl rfl rfl (two_of HT_.out (by kernel_rfl)) (by decide) (by decide) (fun K hK => ?_) (fun K hK => ?_)
   ·skip
    refine box_step ?hg (N := 5) ?hd (cs := #[.int .i64 0, .int .i64 0]) (t := 38) ?hr ?_; (case hd => rfl); (case hg => rfl); (case hr => first | (go_simp; done) | (go_simp; rfl))
    intro gb281 hg w11 hbox hb
    have BK281 := asd (hbox)
    have GW281 := ngw1 hg HB GE280
    have GE281 := ngw1 hg HB GE280
    replace HB := bS1 HB GE280 hb
    have NB280_281 := nlt hg BK280
    have NB281_280 := nsy (nlt hg BK280)
    replace BK280 := bB BK280 hb
    clear hb hbox hg
    refine hK.out _ _ (eb4 BK280).out (fun hHeld => ?_)
    clear hK K
    refine norm_ (a' := ?_) ?_ ?_
    rotate_left
    ·show Act.put _ (some 5) _ = _
     simp only [Act.put, sA, sB, sC, i64_w, i32_w]
     rfl
    refine ro 11 (some 6) (bT 14 12) HT_ (fun K hK => ?_)
    refine box_step ?hg (N := 6) ?hd (cs := #[.int .i64 0, .int .i64 0]) (t := 38) ?hr ?_; (case hd => rfl); (case hg => rfl); (case hr => first | (go_simp; done) | (go_simp; rfl))
    intro gb282 hg w12 hbox hb
    have BK282 := asd (hbox)
    have GW282 := ngw2 hg HB GE280 GE281
    have GE282 := ngw2 hg HB GE280 GE281
    replace HB := bS2 HB GE280 GE281 hb
    have NB280_282 := nlt hg BK280
    have NB282_280 := nsy (nlt hg BK280)
    replace BK280 := bB BK280 hb
    have NB281_282 := nlt hg BK281
    have NB282_281 := nsy (nlt hg BK281)
    replace BK281 := bB BK281 hb
    clear hb hbox hg
    refine hK.out _ _ (eb4 BK280).out (fun hHeld => ?_)
    clear hK K
    refine norm_ (a' := ?_) ?_ ?_
    rotate_left
    ·show Act.put _ (some 6) _ = _
     simp only [Act.put, sA, sB, sC, i64_w, i32_w]
     rfl
    exact norm_ (by simp only [putAll, Act.put, sA, sB, sC]) (hCont (gb281, gb282) _ ⟨hHeld, (bkp BK280), (bkp BK281), (bkp BK282), GW281.out, GE281.out, NB280_281.out, NB281_280.out, NB282_281.out, NB281_282.out, GW282.out, GE282.out, NB280_282.out, NB282_280.out, (bbw3 HB GE280 GE281 GE282)⟩)
   ·skip
    refine box_step ?hg (N := 6) ?hd (cs := #[.int .i64 0, .int .i64 0]) (t := 38) ?hr ?_; (case hd => rfl); (case hg => rfl); (case hr => first | (go_simp; done) | (go_simp; rfl))
    intro gb282 hg w11 hbox hb
    have BK282 := asd (hbox)
    have GW282 := ngw1 hg HB GE280
    have GE282 := ngw1 hg HB GE280
    replace HB := bS1 HB GE280 hb
    have NB280_282 := nlt hg BK280
    have NB282_280 := nsy (nlt hg BK280)
    replace BK280 := bB BK280 hb
    clear hb hbox hg
    refine hK.out _ _ (eb4 BK280).out (fun hHeld => ?_)
    clear hK K
    refine norm_ (a' := ?_) ?_ ?_
    rotate_left
    ·show Act.put _ (some 6) _ = _
     simp only [Act.put, sA, sB, sC, i64_w, i32_w]
     rfl
    refine ro 10 (some 5) (bT 14 12) HT_ (fun K hK => ?_)
    refine box_step ?hg (N := 5) ?hd (cs := #[.int .i64 0, .int .i64 0]) (t := 38) ?hr ?_; (case hd => rfl); (case hg => rfl); (case hr => first | (go_simp; done) | (go_simp; rfl))
    intro gb281 hg w12 hbox hb
    have BK281 := asd (hbox)
    have GW281 := ngw2 hg HB GE280 GE282
    have GE281 := ngw2 hg HB GE280 GE282
    replace HB := bS2 HB GE280 GE282 hb
    have NB280_281 := nlt hg BK280
    have NB281_280 := nsy (nlt hg BK280)
    replace BK280 := bB BK280 hb
    have NB282_281 := nlt hg BK282
    have NB281_282 := nsy (nlt hg BK282)
    replace BK282 := bB BK282 hb
    clear hb hbox hg
    refine hK.out _ _ (eb4 BK280).out (fun hHeld => ?_)
    clear hK K
    refine norm_ (a' := ?_) ?_ ?_
    rotate_left
    ·show Act.put _ (some 5) _ = _
     simp only [Act.put, sA, sB, sC, i64_w, i32_w]
     rfl
    exact norm_ (by simp only [putAll, Act.put, sA, sB, sC]) (hCont (gb281, gb282) _ ⟨hHeld, (bkp BK280), (bkp BK281), (bkp BK282), GW281.out, GE281.out, NB280_281.out, NB281_280.out, NB282_281.out, NB281_282.out, GW282.out, GE282.out, NB280_282.out, NB282_280.out, (bbw3 HB GE280 GE282 GE281)⟩)
  rintro ⟨gb281, gb282⟩ w13 ⟨hS_, h0_, h1_, h2_, h3_, h4_, h5_, h6_, h7_, h8_, h9_, h10_, h11_, h12_, h13_⟩
  have n0_ : Aside0 (w13.heap[gb280]? = some (.cells #[.int .i64 a1_0, .int .i64 a1_1, .int .i64 a1_2, .int .i64 a1_3] 46 (0, 0))) := ⟨h0_⟩
  have n1_ : Aside0 (w13.heap[gb281]? = some (.cells #[.int .i64 0, .int .i64 0] 38 (0, 0))) := ⟨h1_⟩
  have n2_ : Aside0 (w13.heap[gb282]? = some (.cells #[.int .i64 0, .int .i64 0] 38 (0, 0))) := ⟨h2_⟩
  have n3_ : Aside0 (w.heap.size ≤ gb281) := ⟨h3_⟩
  have n4_ : Aside0 (w.heap.size ≤ gb281) := ⟨h4_⟩
  have n5_ : Aside0 (gb280 ≠ gb281) := ⟨h5_⟩
  have n6_ : Aside0 (gb281 ≠ gb280) := ⟨h6_⟩
  have n7_ : Aside0 (gb282 ≠ gb281) := ⟨h7_⟩
  have n8_ : Aside0 (gb281 ≠ gb282) := ⟨h8_⟩
  have n9_ : Aside0 (w.heap.size ≤ gb282) := ⟨h9_⟩
  have n10_ : Aside0 (w.heap.size ≤ gb282) := ⟨h10_⟩
  have n11_ : Aside0 (gb280 ≠ gb282) := ⟨h11_⟩
  have n12_ : Aside0 (gb282 ≠ gb280) := ⟨h12_⟩
  have n13_ : Aside0 (Below w.heap.size w w13) := ⟨h13_⟩
  clear BK280
  clear HB
  clear h0_ h1_ h2_ h3_ h4_ h5_ h6_ h7_ h8_ h9_ h10_ h11_ h12_ h13_
  have BK280 := n0_
  have BK281 := n1_
  have BK282 := n2_
  have GW281 := n3_
  have GE281 := n4_
  have NB280_281 := n5_
  have NB281_280 := n6_
  have NB282_281 := n7_
  have NB281_282 := n8_
  have GW282 := n9_
  have GE282 := n10_
  have NB280_282 := n11_
  have NB282_280 := n12_
  have HB := n13_
  clear n0_ n1_ n2_ n3_ n4_ n5_ n6_ n7_ n8_ n9_ n10_ n11_ n12_ n13_
  have hHeld : w13.cell? ⟨gb280, 0, none⟩ = some (.int .i64 a1_0) ∧ w13.cell? ⟨gb280, 1, none⟩ = some (.int .i64 a1_1) ∧ w13.cell? ⟨gb280, 2, none⟩ = some (.int .i64 a1_2) ∧ w13.cell? ⟨gb280, 3, none⟩ = some (.int .i64 a1_3) := hS_
  refine norm_ (a' := ?_) ?_ ?_
  rotate_left
  ·simp only [putAll, Act.put, sA, sB, sC]
   rfl
  refine ro 12 (none) (bT 14 13) HT_ (fun K hK => ?_)
  have hs14 : w13.cell? ⟨gb281, 0, none⟩ = some (.int .i64 0) := bcl BK281 0
  have hfs14 := blk_frozen BK281.out 0
  have hns14_0 := NB280_281.out
  have hns14_2 := NB282_281.out
  have hms14_0 := NB281_280.out
  have hms14_2 := NB281_282.out
  have hs15 : w13.cell? ⟨gb281, 1, none⟩ = some (.int .i64 0) := bcl BK281 1
  have hfs15 := blk_frozen BK281.out 1
  have hns15_0 := NB280_281.out
  have hns15_2 := NB282_281.out
  have hms15_0 := NB281_280.out
  have hms15_2 := NB281_282.out
  refine skip_ (w1 := ?_) (by rfl) rfl ?_ ?_
  rotate_left
  ·go_simp
   rfl
  refine hK.out _ _ ⟨(cf2 NB280_281 (hHeld.1)), (cf2 NB280_281 (hHeld.2.1)), (cf2 NB280_281 (hHeld.2.2.1)), (cf2 NB280_281 (hHeld.2.2.2))⟩ (fun hHeld => ?_)
  clear hK K
  refine ro 13 (none) (bT 14 14) HT_ (fun K hK => ?_)
  have hs16 : w13.cell? ⟨gb282, 0, none⟩ = some (.int .i64 0) := bcl BK282 0
  have hfs16 := blk_frozen BK282.out 0
  have hns16_0 := NB280_282.out
  have hns16_1 := NB281_282.out
  have hms16_0 := NB282_280.out
  have hms16_1 := NB282_281.out
  have hs17 : w13.cell? ⟨gb282, 1, none⟩ = some (.int .i64 0) := bcl BK282 1
  have hfs17 := blk_frozen BK282.out 1
  have hns17_0 := NB280_282.out
  have hns17_1 := NB281_282.out
  have hms17_0 := NB282_280.out
  have hms17_1 := NB282_281.out
  refine skip_ (w1 := ?_) (by rfl) rfl ?_ ?_
  rotate_left
  ·go_simp
   rfl
  refine hK.out _ _ ⟨(cf2 NB280_282 (hHeld.1)), (cf2 NB280_282 (hHeld.2.1)), (cf2 NB280_282 (hHeld.2.2.1)), (cf2 NB280_282 (hHeld.2.2.2))⟩ (fun hHeld => ?_)
  clear hK K
  refine done_ (done_of HT_.out (by kernel_rfl)) ?_
  have hnb18 := NB281_280.out
  have hnc18 := NB280_281.out
  have hnb19 := NB281_282.out
  have hnc19 := NB282_281.out
  obtain ⟨hcz20_0, hcz20_1, hfz20_0, hfz20_1⟩ := bz2 BK281
 try go_wp2_with (first | ((with_reducible refine gate_callee (f := 118) rfl ?_); refine gl 19 Tryz.func118 #[.int .i64 a0, .agg #[.int .i64 a1_0, .int .i64 a1_2]] ?_; (with_reducible refine (spec_l04Norm.calls _ _ _ _ _ A3.out).mono ?_); rintro e w21 ⟨rfl, hb⟩; refine ⟨_, rfl, ?_⟩; replace BK280 := asd (blk_below (g := gb280) (o := .cells #[.int .i64 a1_0, .int .i64 a1_1, .int .i64 a1_2, .int .i64 a1_3] 46 (0, 0)) (bq2 BK280 NB280_282 NB280_281) hb); replace BK281 := asd (blk_below (g := gb281) (o := .cells #[.int .i64 a1_0, .int .i64 a1_2] 38 (0, 0)) (bq1 BK281 NB281_282) hb); replace BK282 := asd (blk_below (g := gb282) (o := .cells #[.int .i64 a1_1, .int .i64 a1_3] 38 (0, 0)) (bq1 BK282 NB282_281) hb); replace HB := bS3 HB GE280 GE281 GE282 hb; (try clear hb); have hnb22 := NB282_280.out; have hnc22 := NB280_282.out; obtain ⟨hcz23_0, hcz23_1, hfz23_0, hfz23_1⟩ := bz2 BK282) | (go_at_call 118; (with_reducible refine (spec_l04Norm.calls _ _ _ _ _ A5.out).mono ?_); rintro e w24 ⟨rfl, hb⟩; replace BK280 := bB BK280 hb; replace BK281 := bB BK281 hb; replace BK282 := bB BK282 hb; replace HB := bS3 HB GE280 GE281 GE282 hb; (try clear hb); obtain ⟨hcz25_0, hcz25_1, hfz25_0, hfz25_1⟩ := bz2 BK281; obtain ⟨hcz26_0, hcz26_1, hfz26_0, hfz26_1⟩ := bz2 BK282) | (go_at_call 41; (with_reducible refine (spec_l01Add.calls _ _ _ _ _ _ _ A7.out).mono ?_); rintro e w27 ⟨rfl, hb⟩; replace BK280 := bB BK280 hb; replace BK281 := bB BK281 hb; replace BK282 := bB BK282 hb; replace HB := bS3 HB GE280 GE281 GE282 hb; (try clear hb)) | (go_at_call 118; (with_reducible refine (spec_l04Norm.calls _ _ _ _ _ A8.out).mono ?_); rintro e w28 ⟨rfl, hb⟩; replace BK280 := bB BK280 hb; replace BK281 := bB BK281 hb; replace BK282 := bB BK282 hb; replace HB := bS3 HB GE280 GE281 GE282 hb; (try clear hb)))
 rotate_left
 try go_wp2_with (first | ((with_reducible refine gate_callee (f := 118) rfl ?_); refine gl 19 Tryz.func118 #[.int .i64 a0, .agg #[.int .i64 a1_0, .int .i64 a1_2]] ?_; (with_reducible refine (spec_l04Norm.calls _ _ _ _ _ A3.out).mono ?_); rintro e w41 ⟨rfl, hb⟩; refine ⟨_, rfl, ?_⟩; replace BK280 := asd (blk_below (g := gb280) (o := .cells #[.int .i64 a1_0, .int .i64 a1_1, .int .i64 a1_2, .int .i64 a1_3] 46 (0, 0)) (bq2 BK280 NB280_282 NB280_281) hb); replace BK281 := asd (blk_below (g := gb281) (o := .cells #[.int .i64 a1_0, .int .i64 a1_2] 38 (0, 0)) (bq1 BK281 NB281_282) hb); replace BK282 := asd (blk_below (g := gb282) (o := .cells #[.int .i64 a1_1, .int .i64 a1_3] 38 (0, 0)) (bq1 BK282 NB282_281) hb); replace HB := bS3 HB GE280 GE281 GE282 hb; (try clear hb); have hnb42 := NB282_280.out; have hnc42 := NB280_282.out; obtain ⟨hcz43_0, hcz43_1, hfz43_0, hfz43_1⟩ := bz2 BK282) | (go_at_call 118; (with_reducible refine (spec_l04Norm.calls _ _ _ _ _ A5.out).mono ?_); rintro e w44 ⟨rfl, hb⟩; replace BK280 := bB BK280 hb; replace BK281 := bB BK281 hb; replace BK282 := bB BK282 hb; replace HB := bS3 HB GE280 GE281 GE282 hb; (try clear hb)))
 rotate_left
 try go_wp2_with (first | ((with_reducible refine gate_callee (f := 118) rfl ?_); refine gl 19 Tryz.func118 #[.int .i64 a0, .agg #[.int .i64 a1_0, .int .i64 a1_2]] ?_; (with_reducible refine (spec_l04Norm.calls _ _ _ _ _ A3.out).mono ?_); rintro e w57 ⟨rfl, hb⟩; refine ⟨_, rfl, ?_⟩; replace BK280 := asd (blk_below (g := gb280) (o := .cells #[.int .i64 a1_0, .int .i64 a1_1, .int .i64 a1_2, .int .i64 a1_3] 46 (0, 0)) (bq2 BK280 NB280_282 NB280_281) hb); replace BK281 := asd (blk_below (g := gb281) (o := .cells #[.int .i64 a1_0, .int .i64 a1_2] 38 (0, 0)) (bq1 BK281 NB281_282) hb); replace BK282 := asd (blk_below (g := gb282) (o := .cells #[.int .i64 a1_1, .int .i64 a1_3] 38 (0, 0)) (bq1 BK282 NB282_281) hb); replace HB := bS3 HB GE280 GE281 GE282 hb; (try clear hb)))
 rotate_left
 all_goals
  go_ret
  exact er (bbw3 HB GE280 GE281 GE282)
def spec_IsPointMat.f (a0 : Int) (a1_0 : Int) (a1_1 : Int) (a1_2 : Int) (a1_3 : Int) : Option (Bool) := (spec_IsFrame.f a0).bind fun t289 => (if t289 = true then ((spec_IsMat.f a1_0 a1_1 a1_2 a1_3).bind fun t290 => (if t290 = true then ((spec_l04Keeps.f a0 a1_0 a1_1 a1_2 a1_3).bind fun t291 => (some t291)) else (some false))) else (some false))
theorem spec_IsPointMat.calls (a0 : Int) (a1_0 : Int) (a1_1 : Int) (a1_2 : Int) (a1_3 : Int) (r : Bool) (w : World) (h : spec_IsPointMat.f a0 a1_0 a1_1 a1_2 a1_3 = some r) :
  Calls Tryz.prog 61 #[.int .i64 a0, .agg #[.int .i64 a1_0, .int .i64 a1_1, .int .i64 a1_2, .int .i64 a1_3]] w fun e w' => e = .returned (.bool r) ∧ Below w.heap.size w w' := by
 have hu46 := Tryz.underlying46
 have HB := asd (Below.refl w.heap.size w)
 have H : ((spec_IsFrame.f a0).bind fun t289 => (if t289 = true then ((spec_IsMat.f a1_0 a1_1 a1_2 a1_3).bind fun t290 => (if t290 = true then ((spec_l04Keeps.f a0 a1_0 a1_1 a1_2 a1_3).bind fun t291 => (some t291)) else (some false))) else (some false))) = some r := h
 clear h
 obtain ⟨t289, A3, H⟩ := ob H
 try dsimp only at H
 by_cases c4 : t289 = true
 ·subst c4
  replace H := ifT H
  obtain ⟨t290, A5, H⟩ := ob H
  try dsimp only at H
  by_cases c6 : t290 = true
  ·subst c6
   replace H := ifT H
   obtain ⟨t291, A7, H⟩ := ob H
   try dsimp only at H
   obtain rfl := Option.some.inj H
   go_enter Tryz.func61, Tryz.ntmps61
   go_wp2_with (first | ((with_reducible refine gd 3 rfl ?_); refine bx #[.int .i64 a1_0, .int .i64 a1_1, .int .i64 a1_2, .int .i64 a1_3] 46 ?_; intro gb288 hg w8 BK288 hb; have GE288 := ngw0 hg HB; replace HB := bS0 HB hb; clear hb hg) | ((with_reducible refine gate_callee (f := 90) rfl ?_); refine gl 6 Tryz.func90 #[.int .i64 a0] ?_; (with_reducible refine (spec_IsFrame.calls _ _ _ A3.out).mono ?_); rintro e w' ⟨rfl, ⟨nd, rfl⟩⟩; refine ⟨_, rfl, ?_⟩; have hcz9_0 : w8.cell? ⟨gb288, 0, none⟩ = some (.int .i64 a1_0) := bcl BK288 0; have hcz9_1 : w8.cell? ⟨gb288, 1, none⟩ = some (.int .i64 a1_1) := bcl BK288 1; have hcz9_2 : w8.cell? ⟨gb288, 2, none⟩ = some (.int .i64 a1_2) := bcl BK288 2; have hcz9_3 : w8.cell? ⟨gb288, 3, none⟩ = some (.int .i64 a1_3) := bcl BK288 3; have hfz9_0 := blk_frozen BK288.out 0; have hfz9_1 := blk_frozen BK288.out 1; have hfz9_2 := blk_frozen BK288.out 2; have hfz9_3 := blk_frozen BK288.out 3) | (go_at_call 92; (with_reducible refine (spec_IsMat.calls _ _ _ _ _ _ A5.out).mono ?_); rintro e w10 ⟨rfl, hb⟩; replace BK288 := bB BK288 hb; replace HB := bS1 HB GE288 hb; (try clear hb); obtain ⟨hcz11_0, hcz11_1, hcz11_2, hcz11_3, hfz11_0, hfz11_1, hfz11_2, hfz11_3⟩ := bz4 BK288) | (go_at_call 93; (with_reducible refine (spec_l04Keeps.calls _ _ _ _ _ _ _ A7.out).mono ?_); rintro e w12 ⟨rfl, hb⟩; replace BK288 := bB BK288 hb; replace HB := bS1 HB GE288 hb; (try clear hb)))
   go_ret
   exact er (bbw1 HB GE288)
  ·replace c6 := Bool.eq_false_iff.mpr c6
   subst c6
   replace H := ifF H
   obtain rfl := Option.some.inj H
   go_enter Tryz.func61, Tryz.ntmps61
   go_wp2_with (first | ((with_reducible refine gd 3 rfl ?_); refine bx #[.int .i64 a1_0, .int .i64 a1_1, .int .i64 a1_2, .int .i64 a1_3] 46 ?_; intro gb288 hg w13 BK288 hb; have GE288 := ngw0 hg HB; replace HB := bS0 HB hb; clear hb hg) | ((with_reducible refine gate_callee (f := 90) rfl ?_); refine gl 6 Tryz.func90 #[.int .i64 a0] ?_; (with_reducible refine (spec_IsFrame.calls _ _ _ A3.out).mono ?_); rintro e w' ⟨rfl, ⟨nd, rfl⟩⟩; refine ⟨_, rfl, ?_⟩; have hcz14_0 : w13.cell? ⟨gb288, 0, none⟩ = some (.int .i64 a1_0) := bcl BK288 0; have hcz14_1 : w13.cell? ⟨gb288, 1, none⟩ = some (.int .i64 a1_1) := bcl BK288 1; have hcz14_2 : w13.cell? ⟨gb288, 2, none⟩ = some (.int .i64 a1_2) := bcl BK288 2; have hcz14_3 : w13.cell? ⟨gb288, 3, none⟩ = some (.int .i64 a1_3) := bcl BK288 3; have hfz14_0 := blk_frozen BK288.out 0; have hfz14_1 := blk_frozen BK288.out 1; have hfz14_2 := blk_frozen BK288.out 2; have hfz14_3 := blk_frozen BK288.out 3) | (go_at_call 92; (with_reducible refine (spec_IsMat.calls _ _ _ _ _ _ A5.out).mono ?_); rintro e w15 ⟨rfl, hb⟩; replace BK288 := bB BK288 hb; replace HB := bS1 HB GE288 hb; (try clear hb)))
   go_ret
   exact er (bbw1 HB GE288)
 ·replace c4 := Bool.eq_false_iff.mpr c4
  subst c4
  replace H := ifF H
  obtain rfl := Option.some.inj H
  go_enter Tryz.func61, Tryz.ntmps61
  go_wp2_with (first | ((with_reducible refine gd 3 rfl ?_); refine bx #[.int .i64 a1_0, .int .i64 a1_1, .int .i64 a1_2, .int .i64 a1_3] 46 ?_; intro gb288 hg w16 BK288 hb; have GE288 := ngw0 hg HB; replace HB := bS0 HB hb; clear hb hg) | ((with_reducible refine gate_callee (f := 90) rfl ?_); refine gl 6 Tryz.func90 #[.int .i64 a0] ?_; (with_reducible refine (spec_IsFrame.calls _ _ _ A3.out).mono ?_); rintro e w' ⟨rfl, ⟨nd, rfl⟩⟩; refine ⟨_, rfl, ?_⟩))
  go_ret
  exact er (bbw1 HB GE288)
def spec_l03Basis.f (a0_0 : Int) (a0_1 : Int) (a0_2 : Int) : Option ((List (S38))) := some (([(⟨a0_0, 0⟩ : S38), (⟨a0_1, a0_2⟩ : S38)] : List (S38)))
theorem spec_l03Basis.calls (a0_0 : Int) (a0_1 : Int) (a0_2 : Int) (r : List (S38)) (w : World) (h : spec_l03Basis.f a0_0 a0_1 a0_2 = some r) :
  Calls Tryz.prog 94 #[.agg #[.int .i64 a0_0, .int .i64 a0_1, .int .i64 a0_2]] w fun e w' => ∃ v0_ : Value, e = .returned (v0_) ∧ Kd.R k38 38 w' w.heap.size (fun _ => True) v0_ r ∧ Below w.heap.size w w' := by
 have hu29 := Tryz.underlying29
 have hu38 := Tryz.underlying38
 have HB := asd (Below.refl w.heap.size w)
 have H : (some (([(⟨a0_0, 0⟩ : S38), (⟨a0_1, a0_2⟩ : S38)] : List (S38)))) = some r := h
 clear h
 obtain ⟨y293, hy293⟩ : ∃ y_ : List (S38), y_ = (([(⟨a0_0, 0⟩ : S38), (⟨a0_1, a0_2⟩ : S38)] : List (S38))) := ⟨_, rfl⟩
 replace H : (some y293) = some r := by first | (rw [hy293]; with_reducible exact H) | (have H2_ := (Option.bind_some _ _).symm.trans H; rw [hy293]; with_reducible exact H2_) | (have H2_ := (Option.bind_some _ _).symm.trans H; with_reducible exact H2_) | with_reducible exact H | (rw [hy293]; exact H) | exact H
 have Ny293 := Aside0.mk hy293
 clear hy293
 obtain rfl := Option.some.inj H
 go_enter Tryz.func94, Tryz.ntmps94
 go_wp2_with (first | ((with_reducible refine gd 1 rfl ?_); refine bx #[.int .i64 a0_0, .int .i64 a0_1, .int .i64 a0_2] 29 ?_; intro gb292 hg w2 BK292 hb; have GE292 := ngw0 hg HB; replace HB := bS0 HB hb; clear hb hg; obtain ⟨hcz3_0, hcz3_1, hcz3_2, hfz3_0, hfz3_1, hfz3_2⟩ := bz3 BK292) | ((with_reducible refine gd 11 rfl ?_); refine Kd.R_lit k38 _ 38 ?hg (N := 11) ?hd (xs := ([(⟨a0_0, 0⟩ : S38), (⟨a0_1, a0_2⟩ : S38)] : List (S38))) (inner := [.int .i64 a0_0, .int .i64 0, .int .i64 a0_1, .int .i64 a0_2]) (ok := fun _ => True) (okp := fun _ => True) ?hr ?hp (fun _ hk => hk) trivial (Below.refl _ _) (Nat.le_refl _) (by simp) ?_; (case hd => rfl); (case hg => rfl); (case hr => first | (go_simp; done) | (go_simp; rfl)); (case hp => exact (Reps.c2 (show Kd.M k38 _ _ _ (⟨a0_0, 0⟩ : S38) [.int .i64 a0_0, .int .i64 0] from (k38_mkM _ _ _ (⟨a0_0, 0⟩ : S38) )) (Reps.c2 (show Kd.M k38 _ _ _ (⟨a0_1, a0_2⟩ : S38) [.int .i64 a0_1, .int .i64 a0_2] from (k38_mkM _ _ _ (⟨a0_1, a0_2⟩ : S38) )) (Reps.none _ _)))); intro v294 w4 ho5 hb hg_ hnew_; clear hg_ hnew_; (first | rw [← Ny293.out] at ho5 | (simp only [Int.reduceToNat] at ho5; rw [← Ny293.out] at ho5)); have HO295 := asd (Kd.R_lower ho5 (bsz1 HB GE292)); replace BK292 := bB BK292 hb; replace HB := bS1 HB GE292 hb; clear hb ho5))
 go_ret
 exact ⟨_, by first | rfl | (simp [errW_none, errW_some] <;> rfl) | (simp [*, errW_none, errW_some] <;> rfl), by (with_reducible repeat (first | apply Kd.R_alloc | apply Kd.R_drewN | apply Kd.R_drew)); exact HO295.out, bbw1 HB GE292⟩
def spec_l01Scale.f (a0_0 : Int) (a0_1 : Int) (a1 : Int) : Option (Int × Int) := some (wrap64 (a1 * a0_0), wrap64 (a1 * a0_1))
theorem spec_l01Scale.calls (a0_0 : Int) (a0_1 : Int) (a1 : Int) (r1 : Int) (r2 : Int) (w : World) (h : spec_l01Scale.f a0_0 a0_1 a1 = some (r1, r2)) :
  Calls Tryz.prog 42 #[.agg #[.int .i64 a0_0, .int .i64 a0_1], .int .i64 a1] w fun e w' => e = .returned (.agg #[.int .i64 r1, .int .i64 r2]) ∧ Below w.heap.size w w' := by
 have hu38 := Tryz.underlying38
 have HB := asd (Below.refl w.heap.size w)
 have H : (some (wrap64 (a1 * a0_0), wrap64 (a1 * a0_1))) = some (r1, r2) := h
 clear h
 simp only [Option.some.injEq, Prod.mk.injEq] at H
 obtain ⟨rfl, rfl⟩ := H
 go_enter Tryz.func42, Tryz.ntmps42
 go_wp2_with (first | ((with_reducible refine gd 2 rfl ?_); refine bx #[.int .i64 a0_0, .int .i64 a0_1] 38 ?_; intro gb296 hg w3 BK296 hb; have GE296 := ngw0 hg HB; replace HB := bS0 HB hb; clear hb hg) | ((with_reducible refine gd 4 rfl ?_); refine bx #[.int .i64 0, .int .i64 0] 38 ?_; intro gb297 hg w4 BK297 hb; have GE297 := ngw1 hg HB GE296; replace HB := bS1 HB GE296 hb; have NB296_297 := nlt hg BK296; have NB297_296 := nsy (nlt hg BK296); replace BK296 := bB BK296 hb; clear hb hg; have hnb5 := NB296_297.out; have hnc5 := NB297_296.out; obtain ⟨hcz6_0, hcz6_1, hfz6_0, hfz6_1⟩ := bz2 BK296; obtain ⟨hcz7_0, hcz7_1, hfz7_0, hfz7_1⟩ := bz2 BK297))
 refine bodyPost_ret (results_cell_row rfl _ _ gb297 38 #[.int .i64 (wrap64 (a1 * a0_0)), .int .i64 (wrap64 (a1 * a0_1))] (0, 0) _ rfl (bq0 BK297) Tryz.underlying38 rfl (by kernel_rfl)) rfl ?_
 exact er (bbw2 HB GE296 GE297)
def spec_l01Divisor.f : Nat → Int → Int → Option (Int)
 | 0, _, _ => none
 | k + 1, a0, a1 => if a1 = 0 then (some (mx a0 (wrap64 (-a0)))) else ((spec_l01Divisor.f k a1 (Int.tmod a0 a1)).bind fun t298 => (some t298))
theorem spec_l01Divisor.calls (k : Nat) : ∀ (a0 : Int) (a1 : Int) (r : Int) (w : World) (h : spec_l01Divisor.f k a0 a1 = some r),
  Calls Tryz.prog 119 #[.int .i64 a0, .int .i64 a1] w fun e w' => e = .returned (.int .i64 r) ∧ Below w.heap.size w w' := by
 induction k using Nat.strongRecOn with
 | _ k ih =>
 intro a0 a1 r w h
 cases k with
 | zero => exact absurd h (by simp [spec_l01Divisor.f])
 | succ k =>
 simp only [spec_l01Divisor.f] at h
 have HB := asd (Below.refl w.heap.size w)
 have H : (if a1 = 0 then (some (mx a0 (wrap64 (-a0)))) else ((spec_l01Divisor.f k a1 (Int.tmod a0 a1)).bind fun t298 => (some t298))) = some r := h
 clear h
 by_cases c3 : a1 = 0
 ·rw [if_pos c3] at H
  have c3b0 : (a1 == 0) = true := beq_iff_eq.mpr c3
  have c3b1 : (a1 != 0) = false := bne_eq_false_iff_eq.mpr c3
  clear c3
  obtain ⟨ji4, hji4⟩ : ∃ j_ : Int, (mx a0 (wrap64 (-a0))) = j_ := ⟨_, rfl⟩
  replace H : (some ji4) = some r := by first | (rw [hji4] at H; first | done | exact H) | (simp only [hji4] at H ⊢; exact H)
  have hji4_ : (if a0 < (wrap64 (-a0)) then (wrap64 (-a0)) else a0) = ji4 := hji4
  obtain rfl := Option.some.inj H
  go_enter Tryz.func119, Tryz.ntmps119
  go_wp2
  go_ret
  exact ⟨by first | rfl | (simp [errW_none, errW_some] <;> rfl) | (simp only [← hji4]; first | rfl | (simp [errW_none, errW_some] <;> rfl)) | (simp [*, errW_none, errW_some] <;> rfl), bbw0 HB⟩
 ·rw [if_neg c3] at H
  have c3b0 : (a1 == 0) = false := beq_eq_false_iff_ne.mpr c3
  have c3b1 : (a1 != 0) = true := bne_iff_ne.mpr c3
  obtain ⟨t298, A5, H⟩ := ob H
  try dsimp only at H
  obtain rfl := Option.some.inj H
  go_enter Tryz.func119, Tryz.ntmps119
  go_wp2_with (first | ((with_reducible refine gate_callee (f := 119) rfl ?_); refine gl 15 Tryz.func119 #[.int .i64 a1, .int .i64 (Int.tmod a0 a1)] ?_; (with_reducible refine (ih k (by omega) a1 (Int.tmod a0 a1) t298 _ A5.out).mono ?_); rintro e w6 ⟨rfl, hb⟩; refine ⟨_, rfl, ?_⟩; replace HB := bS0 HB hb; (try clear hb)))
  go_ret
  exact er (bbw0 HB)
end Go.Proofs.YtdodghjnlekgeaaGreat.PA
