/- Walks written by program: each Go function that the law reaches comes to the plain function beside it. -/
import Derived.Test.YtfmjboloeabjmaaPAx0
namespace Go.Proofs.Ytfmjboloeabjmaa.PA
open Go.RowKit Go.Proofs.YtfmjboloeabjmaaW.PrintWords Go.Proofs.YtfmjboloeabjmaaW.PrintLast Go.Proofs.YtfmjboloeabjmaaW.PrintMore
attribute [local go_sem] max2_int min2_int max_two min_two max_three min_three max_four min_four   -- for this text's walks alone
set_option linter.unusedVariables false
set_option linter.unusedSimpArgs false

/-! ### laws_szMotionS: function 4 -/
def laws_szMotionS.f (l0 : List (S49)) (a1 : Int) : Option (Int) := if (wrap64 (a1 - (l0.length : Int))) < 0 then (some (-1)) else (some (wrap64 (a1 - (l0.length : Int))))
set_option maxHeartbeats 8000000 in
set_option maxRecDepth 100000 in
theorem laws_szMotionS.calls (A0 : Option Addr) (c0 : Nat) (l0 : List (S49)) (a1 : Int) (r : Int) (w : World) (hr0 : Kd.C k49 w A0 l0.length l0) (hc0 : l0.length ≤ c0) (h : laws_szMotionS.f l0 a1 = some r) :
  Calls Try.prog 4 #[.slice A0 l0.length c0, .int .i64 a1] w fun e w' => e = .returned (.int .i64 r) ∧ Drawn0 w w' := by
 have HR0 := Aside0.mk hr0
 have HC0 := Aside0.mk hc0
 clear hr0 hc0
 have H : (if (wrap64 (a1 - (l0.length : Int))) < 0 then (some (-1)) else (some (wrap64 (a1 - (l0.length : Int))))) = some r := h
 clear h
 by_cases c3 : (wrap64 (a1 - (l0.length : Int))) < 0
 ·rw [if_pos c3] at H
  have c3b0 := decide_eq_true c3
  clear c3
  obtain rfl := Option.some.inj H
  go_enter Try.func4, Try.ntmps4
  go_wp2
  go_ret
  exact ⟨by first | rfl | (simp; done) | (simp [*]; done), by repeat (first | exact Drawn0.refl _ | apply Drawn0.step)⟩
 ·rw [if_neg c3] at H
  have c3b0 := decide_eq_false c3
  clear c3
  obtain rfl := Option.some.inj H
  go_enter Try.func4, Try.ntmps4
  go_wp2
  go_ret
  exact ⟨by first | rfl | (simp; done) | (simp [*]; done), by repeat (first | exact Drawn0.refl _ | apply Drawn0.step)⟩
/-! ### spec_IsFrame: function 61 -/
def spec_IsFrame.f (a0 : Int) : Option (Bool) := if a0 = 0 then (some true) else (some (a0 == 1))
set_option maxHeartbeats 8000000 in
set_option maxRecDepth 100000 in
theorem spec_IsFrame.calls (a0 : Int) (r : Bool) (w : World) (h : spec_IsFrame.f a0 = some r) :
  Calls Try.prog 61 #[.int .i64 a0] w fun e w' => e = .returned (.bool r) ∧ Drawn0 w w' := by
 have H : (if a0 = 0 then (some true) else (some (a0 == 1))) = some r := h
 clear h
 by_cases c2 : a0 = 0
 ·rw [if_pos c2] at H
  have c2b0 : (a0 == 0) = true := beq_iff_eq.mpr c2
  have c2b1 : (a0 != 0) = false := bne_eq_false_iff_eq.mpr c2
  clear c2
  obtain rfl := Option.some.inj H
  go_enter Try.func61, Try.ntmps61
  go_wp2
  go_ret
  exact ⟨by first | rfl | (simp; done) | (simp [*]; done), by repeat (first | exact Drawn0.refl _ | apply Drawn0.step)⟩
 ·rw [if_neg c2] at H
  have c2b0 : (a0 == 0) = false := beq_eq_false_iff_ne.mpr c2
  have c2b1 : (a0 != 0) = true := bne_iff_ne.mpr c2
  obtain rfl := Option.some.inj H
  go_enter Try.func61, Try.ntmps61
  go_wp2
  go_ret
  exact ⟨by first | rfl | (simp; done) | (simp [*]; done), by repeat (first | exact Drawn0.refl _ | apply Drawn0.step)⟩
/-! ### spec_l01In: function 82 -/
def spec_l01In.f (a0 : Int) (a1 : Int) (a2 : Int) : Option (Bool) := if a0 ≥ a1 then (some (decide (a0 ≤ a2))) else (some false)
set_option maxHeartbeats 8000000 in
set_option maxRecDepth 100000 in
theorem spec_l01In.calls (a0 : Int) (a1 : Int) (a2 : Int) (r : Bool) (w : World) (h : spec_l01In.f a0 a1 a2 = some r) :
  Calls Try.prog 82 #[.int .i64 a0, .int .i64 a1, .int .i64 a2] w fun e w' => e = .returned (.bool r) ∧ Drawn0 w w' := by
 have H : (if a0 ≥ a1 then (some (decide (a0 ≤ a2))) else (some false)) = some r := h
 clear h
 by_cases c4 : a0 ≥ a1
 ·rw [if_pos c4] at H
  have c4b0 : decide (a1 ≤ a0) = true := decide_eq_true c4
  clear c4
  obtain rfl := Option.some.inj H
  go_enter Try.func82, Try.ntmps82
  go_wp2
  go_ret
  exact ⟨by first | rfl | (simp; done) | (simp [*]; done), by repeat (first | exact Drawn0.refl _ | apply Drawn0.step)⟩
 ·rw [if_neg c4] at H
  have c4b0 : decide (a1 ≤ a0) = false := decide_eq_false c4
  clear c4
  obtain rfl := Option.some.inj H
  go_enter Try.func82, Try.ntmps82
  go_wp2
  go_ret
  exact ⟨by first | rfl | (simp; done) | (simp [*]; done), by repeat (first | exact Drawn0.refl _ | apply Drawn0.step)⟩
/-! ### spec_IsLattice: function 62 -/
def spec_IsLattice.f (a0_0 : Int) (a0_1 : Int) (a0_2 : Int) : Option (Bool) := (spec_l01In.f a0_0 1 64).bind fun t102 => (if t102 = true then ((spec_l01In.f a0_2 1 64).bind fun t103 => (if t103 = true then ((spec_l01In.f a0_1 0 (wrap64 (a0_0 - 1))).bind fun t104 => (if t104 = true then (some (decide ((wrap64 (a0_0 * a0_2)) ≤ 64))) else (some false))) else (some false))) else (some false))
set_option maxHeartbeats 8000000 in
set_option maxRecDepth 100000 in
theorem spec_IsLattice.calls (a0_0 : Int) (a0_1 : Int) (a0_2 : Int) (r : Bool) (w : World) (h : spec_IsLattice.f a0_0 a0_1 a0_2 = some r) :
  Calls Try.prog 62 #[.agg #[.int .i64 a0_0, .int .i64 a0_1, .int .i64 a0_2]] w fun e w' => e = .returned (.bool r) ∧ Below w.heap.size w w' := by
 have hu28 := Try.underlying28
 have HB := asd (Below.refl w.heap.size w)
 have H : ((spec_l01In.f a0_0 1 64).bind fun t102 => (if t102 = true then ((spec_l01In.f a0_2 1 64).bind fun t103 => (if t103 = true then ((spec_l01In.f a0_1 0 (wrap64 (a0_0 - 1))).bind fun t104 => (if t104 = true then (some (decide ((wrap64 (a0_0 * a0_2)) ≤ 64))) else (some false))) else (some false))) else (some false))) = some r := h
 clear h
 obtain ⟨t102, A2, H⟩ := ob H
 try dsimp only at H
 by_cases c3 : t102 = true
 subst c3
 replace H := ifT H
 obtain ⟨t103, A4, H⟩ := ob H
 try dsimp only at H
 by_cases c5 : t103 = true
 subst c5
 replace H := ifT H
 obtain ⟨t104, A6, H⟩ := ob H
 try dsimp only at H
 by_cases c7 : t104 = true
 subst c7
 replace H := ifT H
 obtain rfl := Option.some.inj H
 rotate_left
 replace c7 := Bool.eq_false_iff.mpr c7
 subst c7
 replace H := ifF H
 obtain rfl := Option.some.inj H
 rotate_left
 replace c5 := Bool.eq_false_iff.mpr c5
 subst c5
 replace H := ifF H
 obtain rfl := Option.some.inj H
 rotate_left
 replace c3 := Bool.eq_false_iff.mpr c3
 subst c3
 replace H := ifF H
 obtain rfl := Option.some.inj H
 rotate_left
 all_goals
  go_enter Try.func62, Try.ntmps62
  go_wp2_with (first | ((with_reducible refine gd 1 rfl ?_); refine bx #[.int .i64 a0_0, .int .i64 a0_1, .int .i64 a0_2] 28 ?_; intro gb101 hg w8 BK101 hb; have GE101 := ngw0 hg HB; replace HB := bS0 HB hb; clear hb hg; obtain ⟨hcz9_0, hcz9_1, hcz9_2, hfz9_0, hfz9_1, hfz9_2⟩ := bz3 BK101) | ((with_reducible refine gate_callee (f := 82) rfl ?_); refine gl 5 Try.func82 #[.int .i64 a0_0, .int .i64 1, .int .i64 64] ?_; (with_reducible refine (spec_l01In.calls _ _ _ _ _ A2.out).mono ?_); rintro e w' ⟨rfl, ⟨nd, rfl⟩⟩; refine ⟨_, rfl, ?_⟩) | (go_at_call 82; (with_reducible refine (spec_l01In.calls _ _ _ _ _ A4.out).mono ?_); rintro e w' ⟨rfl, ⟨nd, rfl⟩⟩) | (go_at_call 82; (with_reducible refine (spec_l01In.calls _ _ _ _ _ A6.out).mono ?_); rintro e w' ⟨rfl, ⟨nd, rfl⟩⟩))
  go_ret
  exact er (bbw1 HB GE101)
/-! ### spec_l04Code: function 41 -/
def spec_l04Code.f (a0 : Int) (a1_0 : Int) (a1_1 : Int) (a1_2 : Int) : Option (Int) := (spec_IsFrame.f a0).bind fun t106 => (if t106 = true then ((spec_IsLattice.f a1_0 a1_1 a1_2).bind fun t107 => (if t107 = true then (some 0) else (some 1))) else (some 1))
set_option maxHeartbeats 8000000 in
set_option maxRecDepth 100000 in
theorem spec_l04Code.calls (a0 : Int) (a1_0 : Int) (a1_1 : Int) (a1_2 : Int) (r : Int) (w : World) (h : spec_l04Code.f a0 a1_0 a1_1 a1_2 = some r) :
  Calls Try.prog 41 #[.int .i64 a0, .agg #[.int .i64 a1_0, .int .i64 a1_1, .int .i64 a1_2]] w fun e w' => e = .returned (.int .i64 r) ∧ Below w.heap.size w w' := by
 have hu28 := Try.underlying28
 have HB := asd (Below.refl w.heap.size w)
 have H : ((spec_IsFrame.f a0).bind fun t106 => (if t106 = true then ((spec_IsLattice.f a1_0 a1_1 a1_2).bind fun t107 => (if t107 = true then (some 0) else (some 1))) else (some 1))) = some r := h
 clear h
 obtain ⟨t106, A3, H⟩ := ob H
 try dsimp only at H
 by_cases c4 : t106 = true
 subst c4
 replace H := ifT H
 obtain ⟨t107, A5, H⟩ := ob H
 try dsimp only at H
 by_cases c6 : t107 = true
 subst c6
 replace H := ifT H
 obtain rfl := Option.some.inj H
 rotate_left
 replace c6 := Bool.eq_false_iff.mpr c6
 subst c6
 replace H := ifF H
 obtain rfl := Option.some.inj H
 rotate_left
 replace c4 := Bool.eq_false_iff.mpr c4
 subst c4
 replace H := ifF H
 obtain rfl := Option.some.inj H
 rotate_left
 all_goals
  go_enter Try.func41, Try.ntmps41
 rotate_left 2
 ·go_wp2_with (first | ((with_reducible refine gd 3 rfl ?_); refine bx #[.int .i64 a1_0, .int .i64 a1_1, .int .i64 a1_2] 28 ?_; intro gb105 hg w13 BK105 hb; have GE105 := ngw0 hg HB; replace HB := bS0 HB hb; clear hb hg) | ((with_reducible refine gate_callee (f := 61) rfl ?_); refine gl 6 Try.func61 #[.int .i64 a0] ?_; (with_reducible refine (spec_IsFrame.calls _ _ _ A3.out).mono ?_); rintro e w' ⟨rfl, ⟨nd, rfl⟩⟩; refine ⟨_, rfl, ?_⟩))
  go_ret
  exact er (bbw1 HB GE105)
 all_goals
  go_wp2_with (first | ((with_reducible refine gd 3 rfl ?_); refine bx #[.int .i64 a1_0, .int .i64 a1_1, .int .i64 a1_2] 28 ?_; intro gb105 hg w7 BK105 hb; have GE105 := ngw0 hg HB; replace HB := bS0 HB hb; clear hb hg) | ((with_reducible refine gate_callee (f := 61) rfl ?_); refine gl 6 Try.func61 #[.int .i64 a0] ?_; (with_reducible refine (spec_IsFrame.calls _ _ _ A3.out).mono ?_); rintro e w' ⟨rfl, ⟨nd, rfl⟩⟩; refine ⟨_, rfl, ?_⟩; have hcz8_0 : w7.cell? ⟨gb105, 0, none⟩ = some (.int .i64 a1_0) := bcl BK105 0; have hcz8_1 : w7.cell? ⟨gb105, 1, none⟩ = some (.int .i64 a1_1) := bcl BK105 1; have hcz8_2 : w7.cell? ⟨gb105, 2, none⟩ = some (.int .i64 a1_2) := bcl BK105 2; have hfz8_0 := blk_frozen BK105.out 0; have hfz8_1 := blk_frozen BK105.out 1; have hfz8_2 := blk_frozen BK105.out 2) | (go_at_call 62; (with_reducible refine (spec_IsLattice.calls _ _ _ _ _ A5.out).mono ?_); rintro e w9 ⟨rfl, hb⟩; replace BK105 := bB BK105 hb; replace HB := bS1 HB GE105 hb; (try clear hb)))
  go_ret
  exact er (bbw1 HB GE105)
/-! ### spec_l06Code: function 23 -/
def spec_l06Code.f (a0 : Int) (a1_0 : Int) (a1_1 : Int) (a1_2 : Int) (a2 : Bool) : Option (Int) := (spec_l04Code.f a0 a1_0 a1_1 a1_2).bind fun t109 => (if t109 = 0 then (if a2 = true then (some t109) else (some 2)) else (some t109))
set_option maxHeartbeats 8000000 in
set_option maxRecDepth 100000 in
theorem spec_l06Code.calls (a0 : Int) (a1_0 : Int) (a1_1 : Int) (a1_2 : Int) (a2 : Bool) (r : Int) (w : World) (h : spec_l06Code.f a0 a1_0 a1_1 a1_2 a2 = some r) :
  Calls Try.prog 23 #[.int .i64 a0, .agg #[.int .i64 a1_0, .int .i64 a1_1, .int .i64 a1_2], .bool a2] w fun e w' => e = .returned (.int .i64 r) ∧ Below w.heap.size w w' := by
 have hu28 := Try.underlying28
 have HB := asd (Below.refl w.heap.size w)
 have H : ((spec_l04Code.f a0 a1_0 a1_1 a1_2).bind fun t109 => (if t109 = 0 then (if a2 = true then (some t109) else (some 2)) else (some t109))) = some r := h
 clear h
 obtain ⟨t109, A4, H⟩ := ob H
 try dsimp only at H
 by_cases c5 : t109 = 0
 rw [if_pos c5] at H
 have c5b0 : (t109 == 0) = true := beq_iff_eq.mpr c5
 have c5b1 : (t109 != 0) = false := bne_eq_false_iff_eq.mpr c5
 clear c5
 by_cases c6 : a2 = true
 subst c6
 replace H := ifT H
 obtain rfl := Option.some.inj H
 rotate_left
 replace c6 := Bool.eq_false_iff.mpr c6
 subst c6
 replace H := ifF H
 obtain rfl := Option.some.inj H
 rotate_left
 rw [if_neg c5] at H
 have c5b0 : (t109 == 0) = false := beq_eq_false_iff_ne.mpr c5
 have c5b1 : (t109 != 0) = true := bne_iff_ne.mpr c5
 obtain rfl := Option.some.inj H
 rotate_left
 all_goals
  go_enter Try.func23, Try.ntmps23
  go_wp2_with (first | ((with_reducible refine gd 4 rfl ?_); refine bx #[.int .i64 a1_0, .int .i64 a1_1, .int .i64 a1_2] 28 ?_; intro gb108 hg w7 BK108 hb; have GE108 := ngw0 hg HB; replace HB := bS0 HB hb; clear hb hg; obtain ⟨hcz8_0, hcz8_1, hcz8_2, hfz8_0, hfz8_1, hfz8_2⟩ := bz3 BK108) | ((with_reducible refine gate_callee (f := 41) rfl ?_); refine gl 10 Try.func41 #[.int .i64 a0, .agg #[.int .i64 a1_0, .int .i64 a1_1, .int .i64 a1_2]] ?_; (with_reducible refine (spec_l04Code.calls _ _ _ _ _ _ A4.out).mono ?_); rintro e w9 ⟨rfl, hb⟩; refine ⟨_, rfl, ?_⟩; replace BK108 := bB BK108 hb; replace HB := bS1 HB GE108 hb; (try clear hb)))
  go_ret
  exact er (bbw1 HB GE108)
/-! ### spec_l02Det: function 26 -/
def spec_l02Det.f (a0_0 : Int) (a0_1 : Int) (a0_2 : Int) (a0_3 : Int) : Option (Int) := some (wrap64 ((wrap64 (a0_0 * a0_3)) - (wrap64 (a0_1 * a0_2))))
set_option maxHeartbeats 8000000 in
set_option maxRecDepth 100000 in
theorem spec_l02Det.calls (a0_0 : Int) (a0_1 : Int) (a0_2 : Int) (a0_3 : Int) (r : Int) (w : World) (h : spec_l02Det.f a0_0 a0_1 a0_2 a0_3 = some r) :
  Calls Try.prog 26 #[.agg #[.int .i64 a0_0, .int .i64 a0_1, .int .i64 a0_2, .int .i64 a0_3]] w fun e w' => e = .returned (.int .i64 r) ∧ Below w.heap.size w w' := by
 have hu40 := Try.underlying40
 have HB := asd (Below.refl w.heap.size w)
 have H : (some (wrap64 ((wrap64 (a0_0 * a0_3)) - (wrap64 (a0_1 * a0_2))))) = some r := h
 clear h
 obtain rfl := Option.some.inj H
 go_enter Try.func26, Try.ntmps26
 go_wp2_with (first | ((with_reducible refine gd 1 rfl ?_); refine bx #[.int .i64 a0_0, .int .i64 a0_1, .int .i64 a0_2, .int .i64 a0_3] 40 ?_; intro gb110 hg w2 BK110 hb; have GE110 := ngw0 hg HB; replace HB := bS0 HB hb; clear hb hg; obtain ⟨hcz3_0, hcz3_1, hcz3_2, hcz3_3, hfz3_0, hfz3_1, hfz3_2, hfz3_3⟩ := bz4 BK110))
 go_ret
 exact er (bbw1 HB GE110)
/-! ### spec_IsVec: function 65 -/
def spec_IsVec.f (a0_0 : Int) (a0_1 : Int) : Option (Bool) := (spec_l01In.f a0_0 (-1000) 1000).bind fun t112 => (if t112 = true then ((spec_l01In.f a0_1 (-1000) 1000).bind fun t113 => (some t113)) else (some false))
set_option maxHeartbeats 8000000 in
set_option maxRecDepth 100000 in
theorem spec_IsVec.calls (a0_0 : Int) (a0_1 : Int) (r : Bool) (w : World) (h : spec_IsVec.f a0_0 a0_1 = some r) :
  Calls Try.prog 65 #[.agg #[.int .i64 a0_0, .int .i64 a0_1]] w fun e w' => e = .returned (.bool r) ∧ Below w.heap.size w w' := by
 have hu42 := Try.underlying42
 have HB := asd (Below.refl w.heap.size w)
 have H : ((spec_l01In.f a0_0 (-1000) 1000).bind fun t112 => (if t112 = true then ((spec_l01In.f a0_1 (-1000) 1000).bind fun t113 => (some t113)) else (some false))) = some r := h
 clear h
 obtain ⟨t112, A2, H⟩ := ob H
 try dsimp only at H
 by_cases c3 : t112 = true
 subst c3
 replace H := ifT H
 obtain ⟨t113, A4, H⟩ := ob H
 try dsimp only at H
 obtain rfl := Option.some.inj H
 rotate_left
 replace c3 := Bool.eq_false_iff.mpr c3
 subst c3
 replace H := ifF H
 obtain rfl := Option.some.inj H
 rotate_left
 all_goals
  go_enter Try.func65, Try.ntmps65
  go_wp2_with (first | ((with_reducible refine gd 1 rfl ?_); refine bx #[.int .i64 a0_0, .int .i64 a0_1] 42 ?_; intro gb111 hg w5 BK111 hb; have GE111 := ngw0 hg HB; replace HB := bS0 HB hb; clear hb hg; obtain ⟨hcz6_0, hcz6_1, hfz6_0, hfz6_1⟩ := bz2 BK111) | ((with_reducible refine gate_callee (f := 82) rfl ?_); refine gl 5 Try.func82 #[.int .i64 a0_0, .int .i64 (-1000), .int .i64 1000] ?_; (with_reducible refine (spec_l01In.calls _ _ _ _ _ A2.out).mono ?_); rintro e w' ⟨rfl, ⟨nd, rfl⟩⟩; refine ⟨_, rfl, ?_⟩) | (go_at_call 82; (with_reducible refine (spec_l01In.calls _ _ _ _ _ A4.out).mono ?_); rintro e w' ⟨rfl, ⟨nd, rfl⟩⟩))
  go_ret
  exact er (bbw1 HB GE111)
/-! ### spec_l02Small: function 50 -/
def spec_l02Small.f (a0_0 : Int) (a0_1 : Int) (a0_2 : Int) (a0_3 : Int) : Option (Bool) := (spec_IsVec.f a0_0 a0_1).bind fun t115 => (if t115 = true then ((spec_IsVec.f a0_2 a0_3).bind fun t116 => (some t116)) else (some false))
set_option maxHeartbeats 8000000 in
set_option maxRecDepth 100000 in
theorem spec_l02Small.calls (a0_0 : Int) (a0_1 : Int) (a0_2 : Int) (a0_3 : Int) (r : Bool) (w : World) (h : spec_l02Small.f a0_0 a0_1 a0_2 a0_3 = some r) :
  Calls Try.prog 50 #[.agg #[.int .i64 a0_0, .int .i64 a0_1, .int .i64 a0_2, .int .i64 a0_3]] w fun e w' => e = .returned (.bool r) ∧ Below w.heap.size w w' := by
 have hu40 := Try.underlying40
 have hu42 := Try.underlying42
 have HB := asd (Below.refl w.heap.size w)
 have H : ((spec_IsVec.f a0_0 a0_1).bind fun t115 => (if t115 = true then ((spec_IsVec.f a0_2 a0_3).bind fun t116 => (some t116)) else (some false))) = some r := h
 clear h
 obtain ⟨t115, A2, H⟩ := ob H
 try dsimp only at H
 by_cases c3 : t115 = true
 ·subst c3
  replace H := ifT H
  obtain ⟨t116, A4, H⟩ := ob H
  try dsimp only at H
  obtain rfl := Option.some.inj H
  go_enter Try.func50, Try.ntmps50
  go_wp2_with (first | ((with_reducible refine gd 1 rfl ?_); refine bx #[.int .i64 a0_0, .int .i64 a0_1, .int .i64 a0_2, .int .i64 a0_3] 40 ?_; intro gb114 hg w5 BK114 hb; have GE114 := ngw0 hg HB; replace HB := bS0 HB hb; clear hb hg; obtain ⟨hcz6_0, hcz6_1, hcz6_2, hcz6_3, hfz6_0, hfz6_1, hfz6_2, hfz6_3⟩ := bz4 BK114) | ((with_reducible refine gate_callee (f := 65) rfl ?_); refine gl 8 Try.func65 #[.agg #[.int .i64 a0_0, .int .i64 a0_1]] ?_; (with_reducible refine (spec_IsVec.calls _ _ _ _ A2.out).mono ?_); rintro e w7 ⟨rfl, hb⟩; refine ⟨_, rfl, ?_⟩; replace BK114 := bB BK114 hb; replace HB := bS1 HB GE114 hb; (try clear hb); obtain ⟨hcz8_0, hcz8_1, hcz8_2, hcz8_3, hfz8_0, hfz8_1, hfz8_2, hfz8_3⟩ := bz4 BK114) | (go_at_call 65; (with_reducible refine (spec_IsVec.calls _ _ _ _ A4.out).mono ?_); rintro e w9 ⟨rfl, hb⟩; replace BK114 := bB BK114 hb; replace HB := bS1 HB GE114 hb; (try clear hb)))
  go_ret
  exact er (bbw1 HB GE114)
 ·replace c3 := Bool.eq_false_iff.mpr c3
  subst c3
  replace H := ifF H
  obtain rfl := Option.some.inj H
  go_enter Try.func50, Try.ntmps50
  go_wp2_with (first | ((with_reducible refine gd 1 rfl ?_); refine bx #[.int .i64 a0_0, .int .i64 a0_1, .int .i64 a0_2, .int .i64 a0_3] 40 ?_; intro gb114 hg w10 BK114 hb; have GE114 := ngw0 hg HB; replace HB := bS0 HB hb; clear hb hg; obtain ⟨hcz11_0, hcz11_1, hcz11_2, hcz11_3, hfz11_0, hfz11_1, hfz11_2, hfz11_3⟩ := bz4 BK114) | ((with_reducible refine gate_callee (f := 65) rfl ?_); refine gl 8 Try.func65 #[.agg #[.int .i64 a0_0, .int .i64 a0_1]] ?_; (with_reducible refine (spec_IsVec.calls _ _ _ _ A2.out).mono ?_); rintro e w12 ⟨rfl, hb⟩; refine ⟨_, rfl, ?_⟩; replace BK114 := bB BK114 hb; replace HB := bS1 HB GE114 hb; (try clear hb)))
  go_ret
  exact er (bbw1 HB GE114)
/-! ### spec_IsMat: function 83 -/
def spec_IsMat.f (a0_0 : Int) (a0_1 : Int) (a0_2 : Int) (a0_3 : Int) : Option (Bool) := (spec_l02Small.f a0_0 a0_1 a0_2 a0_3).bind fun t118 => (if t118 = true then ((spec_l02Det.f a0_0 a0_1 a0_2 a0_3).bind fun t119 => (if t119 = 1 then (some true) else ((spec_l02Det.f a0_0 a0_1 a0_2 a0_3).bind fun t120 => (some (t120 == (-1)))))) else (some false))
set_option maxHeartbeats 8000000 in
set_option maxRecDepth 100000 in
theorem spec_IsMat.calls (a0_0 : Int) (a0_1 : Int) (a0_2 : Int) (a0_3 : Int) (r : Bool) (w : World) (h : spec_IsMat.f a0_0 a0_1 a0_2 a0_3 = some r) :
  Calls Try.prog 83 #[.agg #[.int .i64 a0_0, .int .i64 a0_1, .int .i64 a0_2, .int .i64 a0_3]] w fun e w' => e = .returned (.bool r) ∧ Below w.heap.size w w' := by
 have hu40 := Try.underlying40
 have HB := asd (Below.refl w.heap.size w)
 have H : ((spec_l02Small.f a0_0 a0_1 a0_2 a0_3).bind fun t118 => (if t118 = true then ((spec_l02Det.f a0_0 a0_1 a0_2 a0_3).bind fun t119 => (if t119 = 1 then (some true) else ((spec_l02Det.f a0_0 a0_1 a0_2 a0_3).bind fun t120 => (some (t120 == (-1)))))) else (some false))) = some r := h
 clear h
 obtain ⟨t118, A2, H⟩ := ob H
 try dsimp only at H
 by_cases c3 : t118 = true
 ·subst c3
  replace H := ifT H
  obtain ⟨t119, A4, H⟩ := ob H
  try dsimp only at H
  by_cases c5 : t119 = 1
  ·rw [if_pos c5] at H
   have c5b0 : (t119 == 1) = true := beq_iff_eq.mpr c5
   have c5b1 : (t119 != 1) = false := bne_eq_false_iff_eq.mpr c5
   clear c5
   obtain rfl := Option.some.inj H
   go_enter Try.func83, Try.ntmps83
   go_wp2_with (first | ((with_reducible refine gd 1 rfl ?_); refine bx #[.int .i64 a0_0, .int .i64 a0_1, .int .i64 a0_2, .int .i64 a0_3] 40 ?_; intro gb117 hg w6 BK117 hb; have GE117 := ngw0 hg HB; replace HB := bS0 HB hb; clear hb hg; obtain ⟨hcz7_0, hcz7_1, hcz7_2, hcz7_3, hfz7_0, hfz7_1, hfz7_2, hfz7_3⟩ := bz4 BK117) | ((with_reducible refine gate_callee (f := 50) rfl ?_); refine gl 4 Try.func50 #[.agg #[.int .i64 a0_0, .int .i64 a0_1, .int .i64 a0_2, .int .i64 a0_3]] ?_; (with_reducible refine (spec_l02Small.calls _ _ _ _ _ _ A2.out).mono ?_); rintro e w8 ⟨rfl, hb⟩; refine ⟨_, rfl, ?_⟩; replace BK117 := bB BK117 hb; replace HB := bS1 HB GE117 hb; (try clear hb); obtain ⟨hcz9_0, hcz9_1, hcz9_2, hcz9_3, hfz9_0, hfz9_1, hfz9_2, hfz9_3⟩ := bz4 BK117) | (go_at_call 26; (with_reducible refine (spec_l02Det.calls _ _ _ _ _ _ A4.out).mono ?_); rintro e w10 ⟨rfl, hb⟩; replace BK117 := bB BK117 hb; replace HB := bS1 HB GE117 hb; (try clear hb)))
   go_ret
   exact er (bbw1 HB GE117)
  ·rw [if_neg c5] at H
   have c5b0 : (t119 == 1) = false := beq_eq_false_iff_ne.mpr c5
   have c5b1 : (t119 != 1) = true := bne_iff_ne.mpr c5
   obtain ⟨t120, A11, H⟩ := ob H
   try dsimp only at H
   have e_ : t119 = t120 := Option.some.inj (A4.out.symm.trans A11.out)
   subst e_
   obtain rfl := Option.some.inj H
   go_enter Try.func83, Try.ntmps83
   go_wp2_with (first | ((with_reducible refine gd 1 rfl ?_); refine bx #[.int .i64 a0_0, .int .i64 a0_1, .int .i64 a0_2, .int .i64 a0_3] 40 ?_; intro gb117 hg w12 BK117 hb; have GE117 := ngw0 hg HB; replace HB := bS0 HB hb; clear hb hg; obtain ⟨hcz13_0, hcz13_1, hcz13_2, hcz13_3, hfz13_0, hfz13_1, hfz13_2, hfz13_3⟩ := bz4 BK117) | ((with_reducible refine gate_callee (f := 50) rfl ?_); refine gl 4 Try.func50 #[.agg #[.int .i64 a0_0, .int .i64 a0_1, .int .i64 a0_2, .int .i64 a0_3]] ?_; (with_reducible refine (spec_l02Small.calls _ _ _ _ _ _ A2.out).mono ?_); rintro e w14 ⟨rfl, hb⟩; refine ⟨_, rfl, ?_⟩; replace BK117 := bB BK117 hb; replace HB := bS1 HB GE117 hb; (try clear hb); obtain ⟨hcz15_0, hcz15_1, hcz15_2, hcz15_3, hfz15_0, hfz15_1, hfz15_2, hfz15_3⟩ := bz4 BK117) | (go_at_call 26; (with_reducible refine (spec_l02Det.calls _ _ _ _ _ _ A4.out).mono ?_); rintro e w16 ⟨rfl, hb⟩; replace BK117 := bB BK117 hb; replace HB := bS1 HB GE117 hb; (try clear hb); obtain ⟨hcz17_0, hcz17_1, hcz17_2, hcz17_3, hfz17_0, hfz17_1, hfz17_2, hfz17_3⟩ := bz4 BK117) | (go_at_call 26; (with_reducible refine (spec_l02Det.calls _ _ _ _ _ _ A11.out).mono ?_); rintro e w18 ⟨rfl, hb⟩; replace BK117 := bB BK117 hb; replace HB := bS1 HB GE117 hb; (try clear hb)))
   go_ret
   exact er (bbw1 HB GE117)
 ·replace c3 := Bool.eq_false_iff.mpr c3
  subst c3
  replace H := ifF H
  obtain rfl := Option.some.inj H
  go_enter Try.func83, Try.ntmps83
  go_wp2_with (first | ((with_reducible refine gd 1 rfl ?_); refine bx #[.int .i64 a0_0, .int .i64 a0_1, .int .i64 a0_2, .int .i64 a0_3] 40 ?_; intro gb117 hg w19 BK117 hb; have GE117 := ngw0 hg HB; replace HB := bS0 HB hb; clear hb hg; obtain ⟨hcz20_0, hcz20_1, hcz20_2, hcz20_3, hfz20_0, hfz20_1, hfz20_2, hfz20_3⟩ := bz4 BK117) | ((with_reducible refine gate_callee (f := 50) rfl ?_); refine gl 4 Try.func50 #[.agg #[.int .i64 a0_0, .int .i64 a0_1, .int .i64 a0_2, .int .i64 a0_3]] ?_; (with_reducible refine (spec_l02Small.calls _ _ _ _ _ _ A2.out).mono ?_); rintro e w21 ⟨rfl, hb⟩; refine ⟨_, rfl, ?_⟩; replace BK117 := bB BK117 hb; replace HB := bS1 HB GE117 hb; (try clear hb)))
  go_ret
  exact er (bbw1 HB GE117)
/-! ### spec_l01Add: function 28 -/
def spec_l01Add.f (a0_0 : Int) (a0_1 : Int) (a1_0 : Int) (a1_1 : Int) : Option (Int × Int) := some (wrap64 (a0_0 + a1_0), wrap64 (a0_1 + a1_1))
set_option maxHeartbeats 8000000 in
set_option maxRecDepth 100000 in
theorem spec_l01Add.calls (a0_0 : Int) (a0_1 : Int) (a1_0 : Int) (a1_1 : Int) (r1 : Int) (r2 : Int) (w : World) (h : spec_l01Add.f a0_0 a0_1 a1_0 a1_1 = some (r1, r2)) :
  Calls Try.prog 28 #[.agg #[.int .i64 a0_0, .int .i64 a0_1], .agg #[.int .i64 a1_0, .int .i64 a1_1]] w fun e w' => e = .returned (.agg #[.int .i64 r1, .int .i64 r2]) ∧ Below w.heap.size w w' := by
 have hu42 := Try.underlying42
 have HB := asd (Below.refl w.heap.size w)
 have H : (some (wrap64 (a0_0 + a1_0), wrap64 (a0_1 + a1_1))) = some (r1, r2) := h
 clear h
 simp only [Option.some.injEq, Prod.mk.injEq] at H
 obtain ⟨rfl, rfl⟩ := H
 go_enter Try.func28, Try.ntmps28
 go_wp2_with (first | ((with_reducible refine gd 2 rfl ?_); refine bx #[.int .i64 a0_0, .int .i64 a0_1] 42 ?_; intro gb121 hg w3 BK121 hb; have GE121 := ngw0 hg HB; replace HB := bS0 HB hb; clear hb hg) | ((with_reducible refine gd 3 rfl ?_); refine bx #[.int .i64 a1_0, .int .i64 a1_1] 42 ?_; intro gb122 hg w4 BK122 hb; have GE122 := ngw1 hg HB GE121; replace HB := bS1 HB GE121 hb; have NB121_122 := nlt hg BK121; have NB122_121 := nsy (nlt hg BK121); replace BK121 := bB BK121 hb; clear hb hg) | ((with_reducible refine gd 4 rfl ?_); refine bx #[.int .i64 0, .int .i64 0] 42 ?_; intro gb123 hg w5 BK123 hb; have GE123 := ngw2 hg HB GE121 GE122; replace HB := bS2 HB GE121 GE122 hb; have NB121_123 := nlt hg BK121; have NB123_121 := nsy (nlt hg BK121); replace BK121 := bB BK121 hb; have NB122_123 := nlt hg BK122; have NB123_122 := nsy (nlt hg BK122); replace BK122 := bB BK122 hb; clear hb hg; have hnb6 := NB121_122.out; have hnc6 := NB122_121.out; have hnb7 := NB121_123.out; have hnc7 := NB123_121.out; obtain ⟨hcz8_0, hcz8_1, hfz8_0, hfz8_1⟩ := bz2 BK121; have hnb9 := NB122_123.out; have hnc9 := NB123_122.out; obtain ⟨hcz10_0, hcz10_1, hfz10_0, hfz10_1⟩ := bz2 BK122; obtain ⟨hcz11_0, hcz11_1, hfz11_0, hfz11_1⟩ := bz2 BK123))
 refine bodyPost_ret (results_cell_row rfl _ _ gb123 42 #[.int .i64 (wrap64 (a0_0 + a1_0)), .int .i64 (wrap64 (a0_1 + a1_1))] (0, 0) _ rfl (bq0 BK123) Try.underlying42 rfl (by kernel_rfl)) rfl ?_
 exact er (bbw3 HB GE121 GE122 GE123)
/-! ### spec_l04Norm: function 91 -/
def spec_l04Norm.f (a0 : Int) (a1_0 : Int) (a1_1 : Int) : Option (Int) := if a0 = 1 then (some (wrap64 ((wrap64 ((wrap64 (a1_0 * a1_0)) + (wrap64 (a1_1 * a1_1)))) + (wrap64 (a1_0 * a1_1))))) else (some (wrap64 ((wrap64 (a1_0 * a1_0)) + (wrap64 (a1_1 * a1_1)))))
set_option maxHeartbeats 8000000 in
set_option maxRecDepth 100000 in
theorem spec_l04Norm.calls (a0 : Int) (a1_0 : Int) (a1_1 : Int) (r : Int) (w : World) (h : spec_l04Norm.f a0 a1_0 a1_1 = some r) :
  Calls Try.prog 91 #[.int .i64 a0, .agg #[.int .i64 a1_0, .int .i64 a1_1]] w fun e w' => e = .returned (.int .i64 r) ∧ Below w.heap.size w w' := by
 have hu42 := Try.underlying42
 have HB := asd (Below.refl w.heap.size w)
 have H : (if a0 = 1 then (some (wrap64 ((wrap64 ((wrap64 (a1_0 * a1_0)) + (wrap64 (a1_1 * a1_1)))) + (wrap64 (a1_0 * a1_1))))) else (some (wrap64 ((wrap64 (a1_0 * a1_0)) + (wrap64 (a1_1 * a1_1)))))) = some r := h
 clear h
 by_cases c3 : a0 = 1
 rw [if_pos c3] at H
 have c3b0 : (a0 == 1) = true := beq_iff_eq.mpr c3
 have c3b1 : (a0 != 1) = false := bne_eq_false_iff_eq.mpr c3
 clear c3
 obtain rfl := Option.some.inj H
 rotate_left
 rw [if_neg c3] at H
 have c3b0 : (a0 == 1) = false := beq_eq_false_iff_ne.mpr c3
 have c3b1 : (a0 != 1) = true := bne_iff_ne.mpr c3
 obtain rfl := Option.some.inj H
 rotate_left
 all_goals
  go_enter Try.func91, Try.ntmps91
  go_wp2_with (first | ((with_reducible refine gd 3 rfl ?_); refine bx #[.int .i64 a1_0, .int .i64 a1_1] 42 ?_; intro gb124 hg w4 BK124 hb; have GE124 := ngw0 hg HB; replace HB := bS0 HB hb; clear hb hg; obtain ⟨hcz5_0, hcz5_1, hfz5_0, hfz5_1⟩ := bz2 BK124))
  go_ret
  exact er (bbw1 HB GE124)
/-! ### spec_l04Keeps: function 84 -/
def spec_l04Keeps.f (a0 : Int) (a1_0 : Int) (a1_1 : Int) (a1_2 : Int) (a1_3 : Int) : Option (Bool) := (spec_l04Norm.f a0 a1_0 a1_2).bind fun t128 => (if t128 = 1 then ((spec_l04Norm.f a0 a1_1 a1_3).bind fun t129 => (if t129 = 1 then ((spec_l01Add.f a1_0 a1_2 a1_1 a1_3).bind fun bt130 => ((spec_l04Norm.f a0 bt130.1 bt130.2).bind fun t132 => (some (t132 == (wrap64 (2 + a0)))))) else (some false))) else (some false))
def spec_l04Keeps.T1 : Bool × List (List Nat × List Nat) := (true, [([], []), ([0], [0]), ([], []), ([2], [2]), ([1, 3], [1, 3]), ([], []), ([5], [5]), ([], []), ([7], [7]), ([6, 8], [6, 8]), ([], []), ([], []), ([10, 4, 0, 1, 2, 3, 4, 10, 11], [4, 10]), ([11, 9, 12, 0, 1, 2, 3, 4, 5, 6, 7, 8, 9, 10, 11, 12], [9, 11])])
def spec_l04Keeps.B1 : List Nat := [0, 1, 0, 4, 15, 0, 32, 0, 128, 480, 0, 0, 3103, 8191]
theorem spec_l04Keeps.tab1 : rtab .any (opsOf Try.f84 1) = spec_l04Keeps.T1 := by kernel_rfl
theorem spec_l04Keeps.bits1 : waitsOk spec_l04Keeps.T1.2 spec_l04Keeps.B1 = true := by kernel_rfl
set_option maxHeartbeats 8000000 in
set_option maxRecDepth 100000 in
theorem spec_l04Keeps.calls (a0 : Int) (a1_0 : Int) (a1_1 : Int) (a1_2 : Int) (a1_3 : Int) (r : Bool) (w : World) (h : spec_l04Keeps.f a0 a1_0 a1_1 a1_2 a1_3 = some r) :
  Calls Try.prog 84 #[.int .i64 a0, .agg #[.int .i64 a1_0, .int .i64 a1_1, .int .i64 a1_2, .int .i64 a1_3]] w fun e w' => e = .returned (.bool r) ∧ Below w.heap.size w w' := by
 have hu40 := Try.underlying40
 have hu42 := Try.underlying42
 have HB := asd (Below.refl w.heap.size w)
 have H : ((spec_l04Norm.f a0 a1_0 a1_2).bind fun t128 => (if t128 = 1 then ((spec_l04Norm.f a0 a1_1 a1_3).bind fun t129 => (if t129 = 1 then ((spec_l01Add.f a1_0 a1_2 a1_1 a1_3).bind fun bt130 => ((spec_l04Norm.f a0 bt130.1 bt130.2).bind fun t132 => (some (t132 == (wrap64 (2 + a0)))))) else (some false))) else (some false))) = some r := h
 clear h
 obtain ⟨t128, A3, H⟩ := ob H
 try dsimp only at H
 by_cases c4 : t128 = 1
 rw [if_pos c4] at H
 have c4b0 : (t128 == 1) = true := beq_iff_eq.mpr c4
 have c4b1 : (t128 != 1) = false := bne_eq_false_iff_eq.mpr c4
 clear c4
 obtain ⟨t129, A5, H⟩ := ob H
 try dsimp only at H
 by_cases c6 : t129 = 1
 rw [if_pos c6] at H
 have c6b0 : (t129 == 1) = true := beq_iff_eq.mpr c6
 have c6b1 : (t129 != 1) = false := bne_eq_false_iff_eq.mpr c6
 clear c6
 obtain ⟨⟨t130, t131⟩, A7, H⟩ := ob H
 try dsimp only at H
 obtain ⟨t132, A8, H⟩ := ob H
 try dsimp only at H
 obtain rfl := Option.some.inj H
 rotate_left
 rw [if_neg c6] at H
 have c6b0 : (t129 == 1) = false := beq_eq_false_iff_ne.mpr c6
 have c6b1 : (t129 != 1) = true := bne_iff_ne.mpr c6
 obtain rfl := Option.some.inj H
 rotate_left
 rw [if_neg c4] at H
 have c4b0 : (t128 == 1) = false := beq_eq_false_iff_ne.mpr c4
 have c4b1 : (t128 != 1) = true := bne_iff_ne.mpr c4
 obtain rfl := Option.some.inj H
 rotate_left
 all_goals
  go_enter Try.func84, Try.ntmps84
  try go_wp2_with (first | ((with_reducible refine gd 3 rfl ?_); refine bx #[.int .i64 a1_0, .int .i64 a1_1, .int .i64 a1_2, .int .i64 a1_3] 40 ?_; intro gb125 hg w9 BK125 hb; have GE125 := ngw0 hg HB; replace HB := bS0 HB hb; clear hb hg))
  replace BK125 := asd (blk_drew BK125.out)
  replace HB := asd (below_drew1 HB.out)
  refine sh 14 (eb4 BK125) (fun hHeld => ?_); refine with_tabW spec_l04Keeps.tab1 spec_l04Keeps.bits1 (fun HT_ HW_ => ?_)
  generalize w9.drew = w10 at BK125 HB hHeld ⊢
  refine pu 0 (some 7) (bT 14 1) HT_ ?_
  refine pu 2 (some 9) (bs 14 5) HT_ ?_
  refine pu 5 (some 12) (bs 14 37) HT_ ?_
  refine pu 7 (some 14) (bs 14 165) HT_ ?_
  refine ta 1 (some 8) (bs 14 167) HT_ HW_ hHeld ?_
  refine ta 3 (some 10) (bs 14 175) HT_ HW_ hHeld ?_
  refine pu 4 (some 11) (bs 14 191) HT_ ?_
  refine ta 6 (some 13) (bT 14 8) HT_ HW_ hHeld ?_
  refine ta 8 (some 15) (bT 14 9) HT_ HW_ hHeld ?_
  refine pu 9 (some 16) (bT 14 10) HT_ ?_
  refine join_ (σ := Nat × Nat) 2 (bT 14 12) (fun s_ => [(5, .pointer (some ⟨s_.1, 0, none⟩)), (6, .pointer (some ⟨s_.2, 0, none⟩))]) (fun s_ w' => (w'.cell? ⟨gb125, 0, none⟩ = some (.int .i64 a1_0) ∧ w'.cell? ⟨gb125, 1, none⟩ = some (.int .i64 a1_1) ∧ w'.cell? ⟨gb125, 2, none⟩ = some (.int .i64 a1_2) ∧ w'.cell? ⟨gb125, 3, none⟩ = some (.int .i64 a1_3)) ∧ (w'.heap[gb125]? = some (.cells #[.int .i64 a1_0, .int .i64 a1_1, .int .i64 a1_2, .int .i64 a1_3] 40 (0, 0))) ∧ (w'.heap[s_.1]? = some (.cells #[.int .i64 0, .int .i64 0] 42 (0, 0))) ∧ (w'.heap[s_.2]? = some (.cells #[.int .i64 0, .int .i64 0] 42 (0, 0))) ∧ (w.heap.size ≤ s_.1) ∧ (w.heap.size ≤ s_.1) ∧ (gb125 ≠ s_.1) ∧ (s_.1 ≠ gb125) ∧ (s_.2 ≠ s_.1) ∧ (s_.1 ≠ s_.2) ∧ (w.heap.size ≤ s_.2) ∧ (w.heap.size ≤ s_.2) ∧ (gb125 ≠ s_.2) ∧ (s_.2 ≠ gb125) ∧ (Below w.heap.size w w')) ?_ ?_
  rotate_left
  ·intro hCont
   refine two_ (i := 10) (j := 11) (Ni := some 5) (Nj := some 6) (bT 14 11) (bs 14 3071) rfl rfl rfl rfl (two_of HT_.out (by kernel_rfl)) (by decide) (by decide) (fun K hK => ?_) (fun K hK => ?_)
   ·skip
    refine box_step ?hg (N := 5) ?hd (cs := #[.int .i64 0, .int .i64 0]) (t := 42) ?hr ?_; (case hd => rfl); (case hg => rfl); (case hr => first | (go_simp; done) | (go_simp; rfl))
    intro gb126 hg w11 hbox hb
    have BK126 := asd (hbox)
    have GW126 := ngw1 hg HB GE125
    have GE126 := ngw1 hg HB GE125
    replace HB := bS1 HB GE125 hb
    have NB125_126 := nlt hg BK125
    have NB126_125 := nsy (nlt hg BK125)
    replace BK125 := bB BK125 hb
    clear hb hbox hg
    refine hK.out _ _ (eb4 BK125).out (fun hHeld => ?_)
    clear hK K
    refine norm_ (a' := ?_) ?_ ?_
    rotate_left
    ·show Act.put _ (some 5) _ = _
     simp only [Act.put, sA, sB, sC, i64_w, i32_w]
     rfl
    refine ro 11 (some 6) (bT 14 12) HT_ (fun K hK => ?_)
    refine box_step ?hg (N := 6) ?hd (cs := #[.int .i64 0, .int .i64 0]) (t := 42) ?hr ?_; (case hd => rfl); (case hg => rfl); (case hr => first | (go_simp; done) | (go_simp; rfl))
    intro gb127 hg w12 hbox hb
    have BK127 := asd (hbox)
    have GW127 := ngw2 hg HB GE125 GE126
    have GE127 := ngw2 hg HB GE125 GE126
    replace HB := bS2 HB GE125 GE126 hb
    have NB125_127 := nlt hg BK125
    have NB127_125 := nsy (nlt hg BK125)
    replace BK125 := bB BK125 hb
    have NB126_127 := nlt hg BK126
    have NB127_126 := nsy (nlt hg BK126)
    replace BK126 := bB BK126 hb
    clear hb hbox hg
    refine hK.out _ _ (eb4 BK125).out (fun hHeld => ?_)
    clear hK K
    refine norm_ (a' := ?_) ?_ ?_
    rotate_left
    ·show Act.put _ (some 6) _ = _
     simp only [Act.put, sA, sB, sC, i64_w, i32_w]
     rfl
    exact norm_ (by simp only [putAll, Act.put, sA, sB, sC]) (hCont (gb126, gb127) _ ⟨hHeld, (bkp BK125), (bkp BK126), (bkp BK127), GW126.out, GE126.out, NB125_126.out, NB126_125.out, NB127_126.out, NB126_127.out, GW127.out, GE127.out, NB125_127.out, NB127_125.out, (bbw3 HB GE125 GE126 GE127)⟩)
   ·skip
    refine box_step ?hg (N := 6) ?hd (cs := #[.int .i64 0, .int .i64 0]) (t := 42) ?hr ?_; (case hd => rfl); (case hg => rfl); (case hr => first | (go_simp; done) | (go_simp; rfl))
    intro gb127 hg w11 hbox hb
    have BK127 := asd (hbox)
    have GW127 := ngw1 hg HB GE125
    have GE127 := ngw1 hg HB GE125
    replace HB := bS1 HB GE125 hb
    have NB125_127 := nlt hg BK125
    have NB127_125 := nsy (nlt hg BK125)
    replace BK125 := bB BK125 hb
    clear hb hbox hg
    refine hK.out _ _ (eb4 BK125).out (fun hHeld => ?_)
    clear hK K
    refine norm_ (a' := ?_) ?_ ?_
    rotate_left
    ·show Act.put _ (some 6) _ = _
     simp only [Act.put, sA, sB, sC, i64_w, i32_w]
     rfl
    refine ro 10 (some 5) (bT 14 12) HT_ (fun K hK => ?_)
    refine box_step ?hg (N := 5) ?hd (cs := #[.int .i64 0, .int .i64 0]) (t := 42) ?hr ?_; (case hd => rfl); (case hg => rfl); (case hr => first | (go_simp; done) | (go_simp; rfl))
    intro gb126 hg w12 hbox hb
    have BK126 := asd (hbox)
    have GW126 := ngw2 hg HB GE125 GE127
    have GE126 := ngw2 hg HB GE125 GE127
    replace HB := bS2 HB GE125 GE127 hb
    have NB125_126 := nlt hg BK125
    have NB126_125 := nsy (nlt hg BK125)
    replace BK125 := bB BK125 hb
    have NB127_126 := nlt hg BK127
    have NB126_127 := nsy (nlt hg BK127)
    replace BK127 := bB BK127 hb
    clear hb hbox hg
    refine hK.out _ _ (eb4 BK125).out (fun hHeld => ?_)
    clear hK K
    refine norm_ (a' := ?_) ?_ ?_
    rotate_left
    ·show Act.put _ (some 5) _ = _
     simp only [Act.put, sA, sB, sC, i64_w, i32_w]
     rfl
    exact norm_ (by simp only [putAll, Act.put, sA, sB, sC]) (hCont (gb126, gb127) _ ⟨hHeld, (bkp BK125), (bkp BK126), (bkp BK127), GW126.out, GE126.out, NB125_126.out, NB126_125.out, NB127_126.out, NB126_127.out, GW127.out, GE127.out, NB125_127.out, NB127_125.out, (bbw3 HB GE125 GE127 GE126)⟩)
  rintro ⟨gb126, gb127⟩ w13 ⟨hS_, h0_, h1_, h2_, h3_, h4_, h5_, h6_, h7_, h8_, h9_, h10_, h11_, h12_, h13_⟩
  have n0_ : Aside0 (w13.heap[gb125]? = some (.cells #[.int .i64 a1_0, .int .i64 a1_1, .int .i64 a1_2, .int .i64 a1_3] 40 (0, 0))) := ⟨h0_⟩
  have n1_ : Aside0 (w13.heap[gb126]? = some (.cells #[.int .i64 0, .int .i64 0] 42 (0, 0))) := ⟨h1_⟩
  have n2_ : Aside0 (w13.heap[gb127]? = some (.cells #[.int .i64 0, .int .i64 0] 42 (0, 0))) := ⟨h2_⟩
  have n3_ : Aside0 (w.heap.size ≤ gb126) := ⟨h3_⟩
  have n4_ : Aside0 (w.heap.size ≤ gb126) := ⟨h4_⟩
  have n5_ : Aside0 (gb125 ≠ gb126) := ⟨h5_⟩
  have n6_ : Aside0 (gb126 ≠ gb125) := ⟨h6_⟩
  have n7_ : Aside0 (gb127 ≠ gb126) := ⟨h7_⟩
  have n8_ : Aside0 (gb126 ≠ gb127) := ⟨h8_⟩
  have n9_ : Aside0 (w.heap.size ≤ gb127) := ⟨h9_⟩
  have n10_ : Aside0 (w.heap.size ≤ gb127) := ⟨h10_⟩
  have n11_ : Aside0 (gb125 ≠ gb127) := ⟨h11_⟩
  have n12_ : Aside0 (gb127 ≠ gb125) := ⟨h12_⟩
  have n13_ : Aside0 (Below w.heap.size w w13) := ⟨h13_⟩
  clear BK125
  clear HB
  clear h0_ h1_ h2_ h3_ h4_ h5_ h6_ h7_ h8_ h9_ h10_ h11_ h12_ h13_
  have BK125 := n0_
  have BK126 := n1_
  have BK127 := n2_
  have GW126 := n3_
  have GE126 := n4_
  have NB125_126 := n5_
  have NB126_125 := n6_
  have NB127_126 := n7_
  have NB126_127 := n8_
  have GW127 := n9_
  have GE127 := n10_
  have NB125_127 := n11_
  have NB127_125 := n12_
  have HB := n13_
  clear n0_ n1_ n2_ n3_ n4_ n5_ n6_ n7_ n8_ n9_ n10_ n11_ n12_ n13_
  have hHeld : w13.cell? ⟨gb125, 0, none⟩ = some (.int .i64 a1_0) ∧ w13.cell? ⟨gb125, 1, none⟩ = some (.int .i64 a1_1) ∧ w13.cell? ⟨gb125, 2, none⟩ = some (.int .i64 a1_2) ∧ w13.cell? ⟨gb125, 3, none⟩ = some (.int .i64 a1_3) := hS_
  refine norm_ (a' := ?_) ?_ ?_
  rotate_left
  ·simp only [putAll, Act.put, sA, sB, sC]
   rfl
  refine ro 12 (none) (bT 14 13) HT_ (fun K hK => ?_)
  have hs14 : w13.cell? ⟨gb126, 0, none⟩ = some (.int .i64 0) := bcl BK126 0
  have hfs14 := blk_frozen BK126.out 0
  have hns14_0 := NB125_126.out
  have hns14_2 := NB127_126.out
  have hms14_0 := NB126_125.out
  have hms14_2 := NB126_127.out
  have hs15 : w13.cell? ⟨gb126, 1, none⟩ = some (.int .i64 0) := bcl BK126 1
  have hfs15 := blk_frozen BK126.out 1
  have hns15_0 := NB125_126.out
  have hns15_2 := NB127_126.out
  have hms15_0 := NB126_125.out
  have hms15_2 := NB126_127.out
  refine skip_ (w1 := ?_) (by rfl) rfl ?_ ?_
  rotate_left
  ·go_simp
   rfl
  refine hK.out _ _ ⟨(cf2 NB125_126 (hHeld.1)), (cf2 NB125_126 (hHeld.2.1)), (cf2 NB125_126 (hHeld.2.2.1)), (cf2 NB125_126 (hHeld.2.2.2))⟩ (fun hHeld => ?_)
  clear hK K
  refine ro 13 (none) (bT 14 14) HT_ (fun K hK => ?_)
  have hs16 : w13.cell? ⟨gb127, 0, none⟩ = some (.int .i64 0) := bcl BK127 0
  have hfs16 := blk_frozen BK127.out 0
  have hns16_0 := NB125_127.out
  have hns16_1 := NB126_127.out
  have hms16_0 := NB127_125.out
  have hms16_1 := NB127_126.out
  have hs17 : w13.cell? ⟨gb127, 1, none⟩ = some (.int .i64 0) := bcl BK127 1
  have hfs17 := blk_frozen BK127.out 1
  have hns17_0 := NB125_127.out
  have hns17_1 := NB126_127.out
  have hms17_0 := NB127_125.out
  have hms17_1 := NB127_126.out
  refine skip_ (w1 := ?_) (by rfl) rfl ?_ ?_
  rotate_left
  ·go_simp
   rfl
  refine hK.out _ _ ⟨(cf2 NB125_127 (hHeld.1)), (cf2 NB125_127 (hHeld.2.1)), (cf2 NB125_127 (hHeld.2.2.1)), (cf2 NB125_127 (hHeld.2.2.2))⟩ (fun hHeld => ?_)
  clear hK K
  refine done_ (done_of HT_.out (by kernel_rfl)) ?_
  have hnb18 := NB126_125.out
  have hnc18 := NB125_126.out
  have hnb19 := NB126_127.out
  have hnc19 := NB127_126.out
  obtain ⟨hcz20_0, hcz20_1, hfz20_0, hfz20_1⟩ := bz2 BK126
 try go_wp2_with (first | ((with_reducible refine gate_callee (f := 91) rfl ?_); refine gl 19 Try.func91 #[.int .i64 a0, .agg #[.int .i64 a1_0, .int .i64 a1_2]] ?_; (with_reducible refine (spec_l04Norm.calls _ _ _ _ _ A3.out).mono ?_); rintro e w21 ⟨rfl, hb⟩; refine ⟨_, rfl, ?_⟩; replace BK125 := asd (blk_below (g := gb125) (o := .cells #[.int .i64 a1_0, .int .i64 a1_1, .int .i64 a1_2, .int .i64 a1_3] 40 (0, 0)) (bq2 BK125 NB125_127 NB125_126) hb); replace BK126 := asd (blk_below (g := gb126) (o := .cells #[.int .i64 a1_0, .int .i64 a1_2] 42 (0, 0)) (bq1 BK126 NB126_127) hb); replace BK127 := asd (blk_below (g := gb127) (o := .cells #[.int .i64 a1_1, .int .i64 a1_3] 42 (0, 0)) (bq1 BK127 NB127_126) hb); replace HB := bS3 HB GE125 GE126 GE127 hb; (try clear hb); have hnb22 := NB127_125.out; have hnc22 := NB125_127.out; obtain ⟨hcz23_0, hcz23_1, hfz23_0, hfz23_1⟩ := bz2 BK127) | (go_at_call 91; (with_reducible refine (spec_l04Norm.calls _ _ _ _ _ A5.out).mono ?_); rintro e w24 ⟨rfl, hb⟩; replace BK125 := bB BK125 hb; replace BK126 := bB BK126 hb; replace BK127 := bB BK127 hb; replace HB := bS3 HB GE125 GE126 GE127 hb; (try clear hb); obtain ⟨hcz25_0, hcz25_1, hfz25_0, hfz25_1⟩ := bz2 BK126; obtain ⟨hcz26_0, hcz26_1, hfz26_0, hfz26_1⟩ := bz2 BK127) | (go_at_call 28; (with_reducible refine (spec_l01Add.calls _ _ _ _ _ _ _ A7.out).mono ?_); rintro e w27 ⟨rfl, hb⟩; replace BK125 := bB BK125 hb; replace BK126 := bB BK126 hb; replace BK127 := bB BK127 hb; replace HB := bS3 HB GE125 GE126 GE127 hb; (try clear hb)) | (go_at_call 91; (with_reducible refine (spec_l04Norm.calls _ _ _ _ _ A8.out).mono ?_); rintro e w28 ⟨rfl, hb⟩; replace BK125 := bB BK125 hb; replace BK126 := bB BK126 hb; replace BK127 := bB BK127 hb; replace HB := bS3 HB GE125 GE126 GE127 hb; (try clear hb)))
 rotate_left
 try go_wp2_with (first | ((with_reducible refine gate_callee (f := 91) rfl ?_); refine gl 19 Try.func91 #[.int .i64 a0, .agg #[.int .i64 a1_0, .int .i64 a1_2]] ?_; (with_reducible refine (spec_l04Norm.calls _ _ _ _ _ A3.out).mono ?_); rintro e w41 ⟨rfl, hb⟩; refine ⟨_, rfl, ?_⟩; replace BK125 := asd (blk_below (g := gb125) (o := .cells #[.int .i64 a1_0, .int .i64 a1_1, .int .i64 a1_2, .int .i64 a1_3] 40 (0, 0)) (bq2 BK125 NB125_127 NB125_126) hb); replace BK126 := asd (blk_below (g := gb126) (o := .cells #[.int .i64 a1_0, .int .i64 a1_2] 42 (0, 0)) (bq1 BK126 NB126_127) hb); replace BK127 := asd (blk_below (g := gb127) (o := .cells #[.int .i64 a1_1, .int .i64 a1_3] 42 (0, 0)) (bq1 BK127 NB127_126) hb); replace HB := bS3 HB GE125 GE126 GE127 hb; (try clear hb); have hnb42 := NB127_125.out; have hnc42 := NB125_127.out; obtain ⟨hcz43_0, hcz43_1, hfz43_0, hfz43_1⟩ := bz2 BK127) | (go_at_call 91; (with_reducible refine (spec_l04Norm.calls _ _ _ _ _ A5.out).mono ?_); rintro e w44 ⟨rfl, hb⟩; replace BK125 := bB BK125 hb; replace BK126 := bB BK126 hb; replace BK127 := bB BK127 hb; replace HB := bS3 HB GE125 GE126 GE127 hb; (try clear hb)))
 rotate_left
 try go_wp2_with (first | ((with_reducible refine gate_callee (f := 91) rfl ?_); refine gl 19 Try.func91 #[.int .i64 a0, .agg #[.int .i64 a1_0, .int .i64 a1_2]] ?_; (with_reducible refine (spec_l04Norm.calls _ _ _ _ _ A3.out).mono ?_); rintro e w57 ⟨rfl, hb⟩; refine ⟨_, rfl, ?_⟩; replace BK125 := asd (blk_below (g := gb125) (o := .cells #[.int .i64 a1_0, .int .i64 a1_1, .int .i64 a1_2, .int .i64 a1_3] 40 (0, 0)) (bq2 BK125 NB125_127 NB125_126) hb); replace BK126 := asd (blk_below (g := gb126) (o := .cells #[.int .i64 a1_0, .int .i64 a1_2] 42 (0, 0)) (bq1 BK126 NB126_127) hb); replace BK127 := asd (blk_below (g := gb127) (o := .cells #[.int .i64 a1_1, .int .i64 a1_3] 42 (0, 0)) (bq1 BK127 NB127_126) hb); replace HB := bS3 HB GE125 GE126 GE127 hb; (try clear hb)))
 rotate_left
 all_goals
  go_ret
  exact er (bbw3 HB GE125 GE126 GE127)
/-! ### spec_IsPointMat: function 63 -/
def spec_IsPointMat.f (a0 : Int) (a1_0 : Int) (a1_1 : Int) (a1_2 : Int) (a1_3 : Int) : Option (Bool) := (spec_IsFrame.f a0).bind fun t134 => (if t134 = true then ((spec_IsMat.f a1_0 a1_1 a1_2 a1_3).bind fun t135 => (if t135 = true then ((spec_l04Keeps.f a0 a1_0 a1_1 a1_2 a1_3).bind fun t136 => (some t136)) else (some false))) else (some false))
set_option maxHeartbeats 8000000 in
set_option maxRecDepth 100000 in
theorem spec_IsPointMat.calls (a0 : Int) (a1_0 : Int) (a1_1 : Int) (a1_2 : Int) (a1_3 : Int) (r : Bool) (w : World) (h : spec_IsPointMat.f a0 a1_0 a1_1 a1_2 a1_3 = some r) :
  Calls Try.prog 63 #[.int .i64 a0, .agg #[.int .i64 a1_0, .int .i64 a1_1, .int .i64 a1_2, .int .i64 a1_3]] w fun e w' => e = .returned (.bool r) ∧ Below w.heap.size w w' := by
 have hu40 := Try.underlying40
 have HB := asd (Below.refl w.heap.size w)
 have H : ((spec_IsFrame.f a0).bind fun t134 => (if t134 = true then ((spec_IsMat.f a1_0 a1_1 a1_2 a1_3).bind fun t135 => (if t135 = true then ((spec_l04Keeps.f a0 a1_0 a1_1 a1_2 a1_3).bind fun t136 => (some t136)) else (some false))) else (some false))) = some r := h
 clear h
 obtain ⟨t134, A3, H⟩ := ob H
 try dsimp only at H
 by_cases c4 : t134 = true
 ·subst c4
  replace H := ifT H
  obtain ⟨t135, A5, H⟩ := ob H
  try dsimp only at H
  by_cases c6 : t135 = true
  ·subst c6
   replace H := ifT H
   obtain ⟨t136, A7, H⟩ := ob H
   try dsimp only at H
   obtain rfl := Option.some.inj H
   go_enter Try.func63, Try.ntmps63
   go_wp2_with (first | ((with_reducible refine gd 3 rfl ?_); refine bx #[.int .i64 a1_0, .int .i64 a1_1, .int .i64 a1_2, .int .i64 a1_3] 40 ?_; intro gb133 hg w8 BK133 hb; have GE133 := ngw0 hg HB; replace HB := bS0 HB hb; clear hb hg) | ((with_reducible refine gate_callee (f := 61) rfl ?_); refine gl 6 Try.func61 #[.int .i64 a0] ?_; (with_reducible refine (spec_IsFrame.calls _ _ _ A3.out).mono ?_); rintro e w' ⟨rfl, ⟨nd, rfl⟩⟩; refine ⟨_, rfl, ?_⟩; have hcz9_0 : w8.cell? ⟨gb133, 0, none⟩ = some (.int .i64 a1_0) := bcl BK133 0; have hcz9_1 : w8.cell? ⟨gb133, 1, none⟩ = some (.int .i64 a1_1) := bcl BK133 1; have hcz9_2 : w8.cell? ⟨gb133, 2, none⟩ = some (.int .i64 a1_2) := bcl BK133 2; have hcz9_3 : w8.cell? ⟨gb133, 3, none⟩ = some (.int .i64 a1_3) := bcl BK133 3; have hfz9_0 := blk_frozen BK133.out 0; have hfz9_1 := blk_frozen BK133.out 1; have hfz9_2 := blk_frozen BK133.out 2; have hfz9_3 := blk_frozen BK133.out 3) | (go_at_call 83; (with_reducible refine (spec_IsMat.calls _ _ _ _ _ _ A5.out).mono ?_); rintro e w10 ⟨rfl, hb⟩; replace BK133 := bB BK133 hb; replace HB := bS1 HB GE133 hb; (try clear hb); obtain ⟨hcz11_0, hcz11_1, hcz11_2, hcz11_3, hfz11_0, hfz11_1, hfz11_2, hfz11_3⟩ := bz4 BK133) | (go_at_call 84; (with_reducible refine (spec_l04Keeps.calls _ _ _ _ _ _ _ A7.out).mono ?_); rintro e w12 ⟨rfl, hb⟩; replace BK133 := bB BK133 hb; replace HB := bS1 HB GE133 hb; (try clear hb)))
   go_ret
   exact er (bbw1 HB GE133)
  ·replace c6 := Bool.eq_false_iff.mpr c6
   subst c6
   replace H := ifF H
   obtain rfl := Option.some.inj H
   go_enter Try.func63, Try.ntmps63
   go_wp2_with (first | ((with_reducible refine gd 3 rfl ?_); refine bx #[.int .i64 a1_0, .int .i64 a1_1, .int .i64 a1_2, .int .i64 a1_3] 40 ?_; intro gb133 hg w13 BK133 hb; have GE133 := ngw0 hg HB; replace HB := bS0 HB hb; clear hb hg) | ((with_reducible refine gate_callee (f := 61) rfl ?_); refine gl 6 Try.func61 #[.int .i64 a0] ?_; (with_reducible refine (spec_IsFrame.calls _ _ _ A3.out).mono ?_); rintro e w' ⟨rfl, ⟨nd, rfl⟩⟩; refine ⟨_, rfl, ?_⟩; have hcz14_0 : w13.cell? ⟨gb133, 0, none⟩ = some (.int .i64 a1_0) := bcl BK133 0; have hcz14_1 : w13.cell? ⟨gb133, 1, none⟩ = some (.int .i64 a1_1) := bcl BK133 1; have hcz14_2 : w13.cell? ⟨gb133, 2, none⟩ = some (.int .i64 a1_2) := bcl BK133 2; have hcz14_3 : w13.cell? ⟨gb133, 3, none⟩ = some (.int .i64 a1_3) := bcl BK133 3; have hfz14_0 := blk_frozen BK133.out 0; have hfz14_1 := blk_frozen BK133.out 1; have hfz14_2 := blk_frozen BK133.out 2; have hfz14_3 := blk_frozen BK133.out 3) | (go_at_call 83; (with_reducible refine (spec_IsMat.calls _ _ _ _ _ _ A5.out).mono ?_); rintro e w15 ⟨rfl, hb⟩; replace BK133 := bB BK133 hb; replace HB := bS1 HB GE133 hb; (try clear hb)))
   go_ret
   exact er (bbw1 HB GE133)
 ·replace c4 := Bool.eq_false_iff.mpr c4
  subst c4
  replace H := ifF H
  obtain rfl := Option.some.inj H
  go_enter Try.func63, Try.ntmps63
  go_wp2_with (first | ((with_reducible refine gd 3 rfl ?_); refine bx #[.int .i64 a1_0, .int .i64 a1_1, .int .i64 a1_2, .int .i64 a1_3] 40 ?_; intro gb133 hg w16 BK133 hb; have GE133 := ngw0 hg HB; replace HB := bS0 HB hb; clear hb hg) | ((with_reducible refine gate_callee (f := 61) rfl ?_); refine gl 6 Try.func61 #[.int .i64 a0] ?_; (with_reducible refine (spec_IsFrame.calls _ _ _ A3.out).mono ?_); rintro e w' ⟨rfl, ⟨nd, rfl⟩⟩; refine ⟨_, rfl, ?_⟩))
  go_ret
  exact er (bbw1 HB GE133)
/-! ### spec_l03Basis: function 25 -/
def spec_l03Basis.f (a0_0 : Int) (a0_1 : Int) (a0_2 : Int) : Option ((List (S42))) := some (([(⟨a0_0, 0⟩ : S42), (⟨a0_1, a0_2⟩ : S42)] : List (S42)))
set_option maxHeartbeats 8000000 in
set_option maxRecDepth 100000 in
theorem spec_l03Basis.calls (a0_0 : Int) (a0_1 : Int) (a0_2 : Int) (r : List (S42)) (w : World) (h : spec_l03Basis.f a0_0 a0_1 a0_2 = some r) :
  Calls Try.prog 25 #[.agg #[.int .i64 a0_0, .int .i64 a0_1, .int .i64 a0_2]] w fun e w' => ∃ v0_ : Value, e = .returned (v0_) ∧ Kd.R k42 42 w' w.heap.size (fun _ => True) v0_ r ∧ Below w.heap.size w w' := by
 have hu28 := Try.underlying28
 have hu42 := Try.underlying42
 have HB := asd (Below.refl w.heap.size w)
 have H : (some (([(⟨a0_0, 0⟩ : S42), (⟨a0_1, a0_2⟩ : S42)] : List (S42)))) = some r := h
 clear h
 obtain ⟨y138, hy138⟩ : ∃ y_ : List (S42), y_ = (([(⟨a0_0, 0⟩ : S42), (⟨a0_1, a0_2⟩ : S42)] : List (S42))) := ⟨_, rfl⟩
 replace H : (some y138) = some r := by first | (rw [hy138]; with_reducible exact H) | (have H2_ := (Option.bind_some _ _).symm.trans H; rw [hy138]; with_reducible exact H2_) | (have H2_ := (Option.bind_some _ _).symm.trans H; with_reducible exact H2_) | with_reducible exact H | (rw [hy138]; exact H) | exact H
 have Ny138 := Aside0.mk hy138
 clear hy138
 obtain rfl := Option.some.inj H
 go_enter Try.func25, Try.ntmps25
 go_wp2_with (first | ((with_reducible refine gd 1 rfl ?_); refine bx #[.int .i64 a0_0, .int .i64 a0_1, .int .i64 a0_2] 28 ?_; intro gb137 hg w2 BK137 hb; have GE137 := ngw0 hg HB; replace HB := bS0 HB hb; clear hb hg; obtain ⟨hcz3_0, hcz3_1, hcz3_2, hfz3_0, hfz3_1, hfz3_2⟩ := bz3 BK137) | ((with_reducible refine gd 11 rfl ?_); refine Kd.R_lit k42 _ 42 ?hg (N := 11) ?hd (xs := ([(⟨a0_0, 0⟩ : S42), (⟨a0_1, a0_2⟩ : S42)] : List (S42))) (inner := [.int .i64 a0_0, .int .i64 0, .int .i64 a0_1, .int .i64 a0_2]) (ok := fun _ => True) (okp := fun _ => True) ?hr ?hp (fun _ hk => hk) trivial (Below.refl _ _) (Nat.le_refl _) (by simp) ?_; (case hd => rfl); (case hg => rfl); (case hr => first | (go_simp; done) | (go_simp; rfl)); (case hp => exact (Reps.c2 (show Kd.M k42 _ _ _ (⟨a0_0, 0⟩ : S42) [.int .i64 a0_0, .int .i64 0] from (k42_mkM _ _ _ (⟨a0_0, 0⟩ : S42) )) (Reps.c2 (show Kd.M k42 _ _ _ (⟨a0_1, a0_2⟩ : S42) [.int .i64 a0_1, .int .i64 a0_2] from (k42_mkM _ _ _ (⟨a0_1, a0_2⟩ : S42) )) (Reps.none _ _)))); intro v139 w4 ho5 hb hg_ hnew_; clear hg_ hnew_; (first | rw [← Ny138.out] at ho5 | (simp only [Int.reduceToNat] at ho5; rw [← Ny138.out] at ho5)); have HO140 := asd (Kd.R_lower ho5 (bsz1 HB GE137)); replace BK137 := bB BK137 hb; replace HB := bS1 HB GE137 hb; clear hb ho5))
 go_ret
 exact ⟨_, by first | rfl | (simp [errW_none, errW_some] <;> rfl) | (simp [*, errW_none, errW_some] <;> rfl), by (with_reducible repeat (first | apply Kd.R_alloc | apply Kd.R_drewN | apply Kd.R_drew)); exact HO140.out, bbw1 HB GE137⟩
/-! ### spec_l02Apply: function 69 -/
def spec_l02Apply.f (a0_0 : Int) (a0_1 : Int) (a0_2 : Int) (a0_3 : Int) (a1_0 : Int) (a1_1 : Int) : Option (Int × Int) := some (wrap64 ((wrap64 (a0_0 * a1_0)) + (wrap64 (a0_1 * a1_1))), wrap64 ((wrap64 (a0_2 * a1_0)) + (wrap64 (a0_3 * a1_1))))
set_option maxHeartbeats 8000000 in
set_option maxRecDepth 100000 in
theorem spec_l02Apply.calls (a0_0 : Int) (a0_1 : Int) (a0_2 : Int) (a0_3 : Int) (a1_0 : Int) (a1_1 : Int) (r1 : Int) (r2 : Int) (w : World) (h : spec_l02Apply.f a0_0 a0_1 a0_2 a0_3 a1_0 a1_1 = some (r1, r2)) :
  Calls Try.prog 69 #[.agg #[.int .i64 a0_0, .int .i64 a0_1, .int .i64 a0_2, .int .i64 a0_3], .agg #[.int .i64 a1_0, .int .i64 a1_1]] w fun e w' => e = .returned (.agg #[.int .i64 r1, .int .i64 r2]) ∧ Below w.heap.size w w' := by
 have hu40 := Try.underlying40
 have hu42 := Try.underlying42
 have HB := asd (Below.refl w.heap.size w)
 have H : (some (wrap64 ((wrap64 (a0_0 * a1_0)) + (wrap64 (a0_1 * a1_1))), wrap64 ((wrap64 (a0_2 * a1_0)) + (wrap64 (a0_3 * a1_1))))) = some (r1, r2) := h
 clear h
 simp only [Option.some.injEq, Prod.mk.injEq] at H
 obtain ⟨rfl, rfl⟩ := H
 go_enter Try.func69, Try.ntmps69
 go_wp2_with (first | ((with_reducible refine gd 2 rfl ?_); refine bx #[.int .i64 a0_0, .int .i64 a0_1, .int .i64 a0_2, .int .i64 a0_3] 40 ?_; intro gb141 hg w3 BK141 hb; have GE141 := ngw0 hg HB; replace HB := bS0 HB hb; clear hb hg) | ((with_reducible refine gd 3 rfl ?_); refine bx #[.int .i64 a1_0, .int .i64 a1_1] 42 ?_; intro gb142 hg w4 BK142 hb; have GE142 := ngw1 hg HB GE141; replace HB := bS1 HB GE141 hb; have NB141_142 := nlt hg BK141; have NB142_141 := nsy (nlt hg BK141); replace BK141 := bB BK141 hb; clear hb hg) | ((with_reducible refine gd 4 rfl ?_); refine bx #[.int .i64 0, .int .i64 0] 42 ?_; intro gb143 hg w5 BK143 hb; have GE143 := ngw2 hg HB GE141 GE142; replace HB := bS2 HB GE141 GE142 hb; have NB141_143 := nlt hg BK141; have NB143_141 := nsy (nlt hg BK141); replace BK141 := bB BK141 hb; have NB142_143 := nlt hg BK142; have NB143_142 := nsy (nlt hg BK142); replace BK142 := bB BK142 hb; clear hb hg; have hnb6 := NB141_142.out; have hnc6 := NB142_141.out; have hnb7 := NB141_143.out; have hnc7 := NB143_141.out; obtain ⟨hcz8_0, hcz8_1, hcz8_2, hcz8_3, hfz8_0, hfz8_1, hfz8_2, hfz8_3⟩ := bz4 BK141; have hnb9 := NB142_143.out; have hnc9 := NB143_142.out; obtain ⟨hcz10_0, hcz10_1, hfz10_0, hfz10_1⟩ := bz2 BK142; obtain ⟨hcz11_0, hcz11_1, hfz11_0, hfz11_1⟩ := bz2 BK143))
 refine bodyPost_ret (results_cell_row rfl _ _ gb143 42 #[.int .i64 (wrap64 ((wrap64 (a0_0 * a1_0)) + (wrap64 (a0_1 * a1_1)))), .int .i64 (wrap64 ((wrap64 (a0_2 * a1_0)) + (wrap64 (a0_3 * a1_1))))] (0, 0) _ rfl (bq0 BK143) Try.underlying42 rfl (by kernel_rfl)) rfl ?_
 exact er (bbw3 HB GE141 GE142 GE143)
/-! ### spec_l01Scale: function 29 -/
def spec_l01Scale.f (a0_0 : Int) (a0_1 : Int) (a1 : Int) : Option (Int × Int) := some (wrap64 (a1 * a0_0), wrap64 (a1 * a0_1))
set_option maxHeartbeats 8000000 in
set_option maxRecDepth 100000 in
theorem spec_l01Scale.calls (a0_0 : Int) (a0_1 : Int) (a1 : Int) (r1 : Int) (r2 : Int) (w : World) (h : spec_l01Scale.f a0_0 a0_1 a1 = some (r1, r2)) :
  Calls Try.prog 29 #[.agg #[.int .i64 a0_0, .int .i64 a0_1], .int .i64 a1] w fun e w' => e = .returned (.agg #[.int .i64 r1, .int .i64 r2]) ∧ Below w.heap.size w w' := by
 have hu42 := Try.underlying42
 have HB := asd (Below.refl w.heap.size w)
 have H : (some (wrap64 (a1 * a0_0), wrap64 (a1 * a0_1))) = some (r1, r2) := h
 clear h
 simp only [Option.some.injEq, Prod.mk.injEq] at H
 obtain ⟨rfl, rfl⟩ := H
 go_enter Try.func29, Try.ntmps29
 go_wp2_with (first | ((with_reducible refine gd 2 rfl ?_); refine bx #[.int .i64 a0_0, .int .i64 a0_1] 42 ?_; intro gb144 hg w3 BK144 hb; have GE144 := ngw0 hg HB; replace HB := bS0 HB hb; clear hb hg) | ((with_reducible refine gd 4 rfl ?_); refine bx #[.int .i64 0, .int .i64 0] 42 ?_; intro gb145 hg w4 BK145 hb; have GE145 := ngw1 hg HB GE144; replace HB := bS1 HB GE144 hb; have NB144_145 := nlt hg BK144; have NB145_144 := nsy (nlt hg BK144); replace BK144 := bB BK144 hb; clear hb hg; have hnb5 := NB144_145.out; have hnc5 := NB145_144.out; obtain ⟨hcz6_0, hcz6_1, hfz6_0, hfz6_1⟩ := bz2 BK144; obtain ⟨hcz7_0, hcz7_1, hfz7_0, hfz7_1⟩ := bz2 BK145))
 refine bodyPost_ret (results_cell_row rfl _ _ gb145 42 #[.int .i64 (wrap64 (a1 * a0_0)), .int .i64 (wrap64 (a1 * a0_1))] (0, 0) _ rfl (bq0 BK145) Try.underlying42 rfl (by kernel_rfl)) rfl ?_
 exact er (bbw2 HB GE144 GE145)
/-! ### spec_l01Mod: function 53 -/
def spec_l01Mod.f (a0 : Int) (a1 : Int) : Option (Int) := if a1 = 0 then (none) else (if (Int.tmod a0 a1) < 0 then (some (wrap64 ((Int.tmod a0 a1) + a1))) else (some (Int.tmod a0 a1)))
set_option maxHeartbeats 8000000 in
set_option maxRecDepth 100000 in
theorem spec_l01Mod.calls (a0 : Int) (a1 : Int) (r : Int) (w : World) (h : spec_l01Mod.f a0 a1 = some r) :
  Calls Try.prog 53 #[.int .i64 a0, .int .i64 a1] w fun e w' => e = .returned (.int .i64 r) ∧ Drawn0 w w' := by
 have H : (if a1 = 0 then (none) else (if (Int.tmod a0 a1) < 0 then (some (wrap64 ((Int.tmod a0 a1) + a1))) else (some (Int.tmod a0 a1)))) = some r := h
 clear h
 by_cases c3 : a1 = 0
 ·rw [if_pos c3] at H
  exact absurd H (by simp)
 rw [if_neg c3] at H
 have c3b0 : (a1 == 0) = false := beq_eq_false_iff_ne.mpr c3
 have c3b1 : (a1 != 0) = true := bne_iff_ne.mpr c3
 by_cases c4 : (Int.tmod a0 a1) < 0
 rw [if_pos c4] at H
 have c4b0 := decide_eq_true c4
 clear c4
 obtain rfl := Option.some.inj H
 rotate_left
 rw [if_neg c4] at H
 have c4b0 := decide_eq_false c4
 clear c4
 obtain rfl := Option.some.inj H
 rotate_left
 all_goals
  go_enter Try.func53, Try.ntmps53
  go_wp2
  go_ret
  exact ⟨by first | rfl | (simp; done) | (simp [*]; done), by repeat (first | exact Drawn0.refl _ | apply Drawn0.step)⟩

end Go.Proofs.Ytfmjboloeabjmaa.PA
