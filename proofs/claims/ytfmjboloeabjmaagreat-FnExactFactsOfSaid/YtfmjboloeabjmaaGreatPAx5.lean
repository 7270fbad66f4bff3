import Derived.Test.YtfmjboloeabjmaaGreatPAx0
namespace Go.Proofs.YtfmjboloeabjmaaGreat.PA
open Go.RowKit Go.Proofs.YtfmjboloeabjmaaGreatW.PrintWords Go.Proofs.YtfmjboloeabjmaaGreatW.PrintLast Go.Proofs.YtfmjboloeabjmaaGreatW.PrintMore
attribute [local go_sem] max2_int min2_int max_two min_two max_three min_three max_four min_four   -- for this text's walks alone
set_option linter.unusedVariables false
set_option maxHeartbeats 8000000
set_option maxRecDepth 100000
set_option linter.unusedSimpArgs false
def laws_szMotionS.f (l0 : List (S51)) (a1 : Int) : Option (Int) := if (wrap64 (a1 - (l0.length : Int))) < 0 then (some (-1)) else (some (wrap64 (a1 - (l0.length : Int))))
theorem laws_szMotionS.calls (A0 : Option Addr) (c0 : Nat) (l0 : List (S51)) (a1 : Int) (r : Int) (w : World) (hr0 : Kd.C k51 w A0 l0.length l0) (hc0 : l0.length ≤ c0) (h : laws_szMotionS.f l0 a1 = some r) :
  Calls Tryz.prog 4 #[.slice A0 l0.length c0, .int .i64 a1] w fun e w' => e = .returned (.int .i64 r) ∧ Drawn0 w w' := by
 have HR0 := Aside0.mk hr0
 have Ab := Aside0.mk hc0
 clear hr0 hc0
 have H : (if (wrap64 (a1 - (l0.length : Int))) < 0 then (some (-1)) else (some (wrap64 (a1 - (l0.length : Int))))) = some r := h
 clear h
 by_cases c3 : (wrap64 (a1 - (l0.length : Int))) < 0
 ·rw [if_pos c3] at H
  have Aa := decide_eq_true c3
  clear c3
  obtain rfl := Option.some.inj H
  go_enter Tryz.func4, Tryz.ntmps4
  go_wp2
  go_ret
  exact ⟨by first | rfl | (simp; done) | (simp [*]; done), by repeat (first | exact Drawn0.refl _ | apply Drawn0.step)⟩
 ·rw [if_neg c3] at H
  have Aa := decide_eq_false c3
  clear c3
  obtain rfl := Option.some.inj H
  go_enter Tryz.func4, Tryz.ntmps4
  go_wp2
  go_ret
  exact ⟨by first | rfl | (simp; done) | (simp [*]; done), by repeat (first | exact Drawn0.refl _ | apply Drawn0.step)⟩
def spec_IsFrame.f (a0 : Int) : Option (Bool) := if a0 = 0 then (some true) else (some (a0 == 1))
theorem spec_IsFrame.calls (a0 : Int) (r : Bool) (w : World) (h : spec_IsFrame.f a0 = some r) :
  Calls Tryz.prog 77 #[.int .i64 a0] w fun e w' => e = .returned (.bool r) ∧ Drawn0 w w' := by
 have H : (if a0 = 0 then (some true) else (some (a0 == 1))) = some r := h
 clear h
 by_cases c2 : a0 = 0
 ·rw [if_pos c2] at H
  have Aa : (a0 == 0) = true := beq_iff_eq.mpr c2
  have Ab : (a0 != 0) = false := bne_eq_false_iff_eq.mpr c2
  clear c2
  obtain rfl := Option.some.inj H
  go_enter Tryz.func77, Tryz.ntmps77
  go_wp2
  go_ret
  exact ⟨by first | rfl | (simp; done) | (simp [*]; done), by repeat (first | exact Drawn0.refl _ | apply Drawn0.step)⟩
 ·rw [if_neg c2] at H
  have Aa : (a0 == 0) = false := beq_eq_false_iff_ne.mpr c2
  have Ab : (a0 != 0) = true := bne_iff_ne.mpr c2
  obtain rfl := Option.some.inj H
  go_enter Tryz.func77, Tryz.ntmps77
  go_wp2
  go_ret
  exact ⟨by first | rfl | (simp; done) | (simp [*]; done), by repeat (first | exact Drawn0.refl _ | apply Drawn0.step)⟩
def spec_l01In.f (a0 : Int) (a1 : Int) (a2 : Int) : Option (Bool) := if a0 ≥ a1 then (some (decide (a0 ≤ a2))) else (some false)
theorem spec_l01In.calls (a0 : Int) (a1 : Int) (a2 : Int) (r : Bool) (w : World) (h : spec_l01In.f a0 a1 a2 = some r) :
  Calls Tryz.prog 100 #[.int .i64 a0, .int .i64 a1, .int .i64 a2] w fun e w' => e = .returned (.bool r) ∧ Drawn0 w w' := by
 have H : (if a0 ≥ a1 then (some (decide (a0 ≤ a2))) else (some false)) = some r := h
 clear h
 by_cases c4 : a0 ≥ a1
 ·rw [if_pos c4] at H
  have Aa : decide (a1 ≤ a0) = true := decide_eq_true c4
  clear c4
  obtain rfl := Option.some.inj H
  go_enter Tryz.func100, Tryz.ntmps100
  go_wp2
  go_ret
  exact ⟨by first | rfl | (simp; done) | (simp [*]; done), by repeat (first | exact Drawn0.refl _ | apply Drawn0.step)⟩
 ·rw [if_neg c4] at H
  have Aa : decide (a1 ≤ a0) = false := decide_eq_false c4
  clear c4
  obtain rfl := Option.some.inj H
  go_enter Tryz.func100, Tryz.ntmps100
  go_wp2
  go_ret
  exact ⟨by first | rfl | (simp; done) | (simp [*]; done), by repeat (first | exact Drawn0.refl _ | apply Drawn0.step)⟩
def spec_IsLattice.f (Aa : Int) (Ac : Int) (Ab : Int) : Option (Bool) := (spec_l01In.f Aa 1 64).bind fun Ad => (if Ad = true then ((spec_l01In.f Ab 1 64).bind fun Ae => (if Ae = true then ((spec_l01In.f Ac 0 (wrap64 (Aa - 1))).bind fun Af => (if Af = true then (some (decide ((wrap64 (Aa * Ab)) ≤ 64))) else (some false))) else (some false))) else (some false))
theorem spec_IsLattice.calls (Aa : Int) (Ac : Int) (Ab : Int) (r : Bool) (w : World) (h : spec_IsLattice.f Aa Ac Ab = some r) :
  Calls Tryz.prog 78 #[.agg #[.int .i64 Aa, .int .i64 Ac, .int .i64 Ab]] w fun e w' => e = .returned (.bool r) ∧ Below w.heap.size w w' := by
 have hu30 := Tryz.underlying30
 have HB := asd (Below.refl w.heap.size w)
 have H : ((spec_l01In.f Aa 1 64).bind fun Ad => (if Ad = true then ((spec_l01In.f Ab 1 64).bind fun Ae => (if Ae = true then ((spec_l01In.f Ac 0 (wrap64 (Aa - 1))).bind fun Af => (if Af = true then (some (decide ((wrap64 (Aa * Ab)) ≤ 64))) else (some false))) else (some false))) else (some false))) = some r := h
 clear h
 obtain ⟨Ad, A2, H⟩ := ob H
 try dsimp only at H
 by_cases c3 : Ad = true
 subst c3
 replace H := ifT H
 obtain ⟨Ae, A4, H⟩ := ob H
 try dsimp only at H
 by_cases c5 : Ae = true
 subst c5
 replace H := ifT H
 obtain ⟨Af, A6, H⟩ := ob H
 try dsimp only at H
 by_cases c7 : Af = true
 subst c7
 replace H := ifT H
 obtain rfl := Option.some.inj H
 rotate_left
 replace c7 := Bool.eq_false_iff.mpr c7
 subst c7
 replace H := ifF H
 obtain rfl := Option.some.inj H
 rotate_left
 replace c5 := Bool.eq_false_iff.mpr c5
 subst c5
 replace H := ifF H
 obtain rfl := Option.some.inj H
 rotate_left
 replace c3 := Bool.eq_false_iff.mpr c3
 subst c3
 replace H := ifF H
 obtain rfl := Option.some.inj H
 rotate_left
 all_goals
  go_enter Tryz.func78, Tryz.ntmps78
  go_wp2_with (first | ((with_reducible refine gd 1 rfl ?_); refine bx #[.int .i64 Aa, .int .i64 Ac, .int .i64 Ab] 30 ?_; intro Ao hg w8 Ag hb; have Ah := ngw0 hg HB; replace HB := bS0 HB hb; clear hb hg; obtain ⟨Ai, Aj, Ak, Al, Am, An⟩ := bz3 Ag) | ((with_reducible refine gate_callee (f := 100) rfl ?_); refine gl 5 Tryz.func100 #[.int .i64 Aa, .int .i64 1, .int .i64 64] ?_; (with_reducible refine (spec_l01In.calls _ _ _ _ _ A2.out).mono ?_); rintro e w' ⟨rfl, ⟨nd, rfl⟩⟩; refine ⟨_, rfl, ?_⟩) | (go_at_call 100; (with_reducible refine (spec_l01In.calls _ _ _ _ _ A4.out).mono ?_); rintro e w' ⟨rfl, ⟨nd, rfl⟩⟩) | (go_at_call 100; (with_reducible refine (spec_l01In.calls _ _ _ _ _ A6.out).mono ?_); rintro e w' ⟨rfl, ⟨nd, rfl⟩⟩))
  go_ret
  exact er (bbw1 HB Ah)
def spec_l04Code.f (a0 : Int) (Ab : Int) (Ac : Int) (Ad : Int) : Option (Int) := (spec_IsFrame.f a0).bind fun Ag => (if Ag = true then ((spec_IsLattice.f Ab Ac Ad).bind fun Ah => (if Ah = true then (some 0) else (some 1))) else (some 1))
theorem spec_l04Code.calls (a0 : Int) (Ab : Int) (Ac : Int) (Ad : Int) (r : Int) (w : World) (h : spec_l04Code.f a0 Ab Ac Ad = some r) :
  Calls Tryz.prog 43 #[.int .i64 a0, .agg #[.int .i64 Ab, .int .i64 Ac, .int .i64 Ad]] w fun e w' => e = .returned (.int .i64 r) ∧ Below w.heap.size w w' := by
 have hu30 := Tryz.underlying30
 have HB := asd (Below.refl w.heap.size w)
 have H : ((spec_IsFrame.f a0).bind fun Ag => (if Ag = true then ((spec_IsLattice.f Ab Ac Ad).bind fun Ah => (if Ah = true then (some 0) else (some 1))) else (some 1))) = some r := h
 clear h
 obtain ⟨Ag, A3, H⟩ := ob H
 try dsimp only at H
 by_cases c4 : Ag = true
 subst c4
 replace H := ifT H
 obtain ⟨Ah, A5, H⟩ := ob H
 try dsimp only at H
 by_cases c6 : Ah = true
 subst c6
 replace H := ifT H
 obtain rfl := Option.some.inj H
 rotate_left
 replace c6 := Bool.eq_false_iff.mpr c6
 subst c6
 replace H := ifF H
 obtain rfl := Option.some.inj H
 rotate_left
 replace c4 := Bool.eq_false_iff.mpr c4
 subst c4
 replace H := ifF H
 obtain rfl := Option.some.inj H
 rotate_left
 all_goals
  go_enter Tryz.func43, Tryz.ntmps43
 rotate_left 2
 ·go_wp2_with (first | ((with_reducible refine gd 3 rfl ?_); refine bx #[.int .i64 Ab, .int .i64 Ac, .int .i64 Ad] 30 ?_; intro Ae hg Ao Aa hb; have Af := ngw0 hg HB; replace HB := bS0 HB hb; clear hb hg) | ((with_reducible refine gate_callee (f := 77) rfl ?_); refine gl 6 Tryz.func77 #[.int .i64 a0] ?_; (with_reducible refine (spec_IsFrame.calls _ _ _ A3.out).mono ?_); rintro e w' ⟨rfl, ⟨nd, rfl⟩⟩; refine ⟨_, rfl, ?_⟩))
  go_ret
  exact er (bbw1 HB Af)
 all_goals
  go_wp2_with (first | ((with_reducible refine gd 3 rfl ?_); refine bx #[.int .i64 Ab, .int .i64 Ac, .int .i64 Ad] 30 ?_; intro Ae hg w7 Aa hb; have Af := ngw0 hg HB; replace HB := bS0 HB hb; clear hb hg) | ((with_reducible refine gate_callee (f := 77) rfl ?_); refine gl 6 Tryz.func77 #[.int .i64 a0] ?_; (with_reducible refine (spec_IsFrame.calls _ _ _ A3.out).mono ?_); rintro e w' ⟨rfl, ⟨nd, rfl⟩⟩; refine ⟨_, rfl, ?_⟩; have Ai : w7.cell? ⟨Ae, 0, none⟩ = some (.int .i64 Ab) := bcl Aa 0; have Aj : w7.cell? ⟨Ae, 1, none⟩ = some (.int .i64 Ac) := bcl Aa 1; have Ak : w7.cell? ⟨Ae, 2, none⟩ = some (.int .i64 Ad) := bcl Aa 2; have Al := blk_frozen Aa.out 0; have Am := blk_frozen Aa.out 1; have An := blk_frozen Aa.out 2) | (go_at_call 78; (with_reducible refine (spec_IsLattice.calls _ _ _ _ _ A5.out).mono ?_); rintro e w9 ⟨rfl, hb⟩; replace Aa := bB Aa hb; replace HB := bS1 HB Af hb; (try clear hb)))
  go_ret
  exact er (bbw1 HB Af)
def spec_l06Code.f (a0 : Int) (Ab : Int) (Ac : Int) (Ad : Int) (a2 : Bool) : Option (Int) := (spec_l04Code.f a0 Ab Ac Ad).bind fun Aa => (if Aa = 0 then (if a2 = true then (some Aa) else (some 2)) else (some Aa))
theorem spec_l06Code.calls (a0 : Int) (Ab : Int) (Ac : Int) (Ad : Int) (a2 : Bool) (r : Int) (w : World) (h : spec_l06Code.f a0 Ab Ac Ad a2 = some r) :
  Calls Tryz.prog 18 #[.int .i64 a0, .agg #[.int .i64 Ab, .int .i64 Ac, .int .i64 Ad], .bool a2] w fun e w' => e = .returned (.int .i64 r) ∧ Below w.heap.size w w' := by
 have hu30 := Tryz.underlying30
 have HB := asd (Below.refl w.heap.size w)
 have H : ((spec_l04Code.f a0 Ab Ac Ad).bind fun Aa => (if Aa = 0 then (if a2 = true then (some Aa) else (some 2)) else (some Aa))) = some r := h
 clear h
 obtain ⟨Aa, A4, H⟩ := ob H
 try dsimp only at H
 by_cases c5 : Aa = 0
 rw [if_pos c5] at H
 have Ag : (Aa == 0) = true := beq_iff_eq.mpr c5
 have Ah : (Aa != 0) = false := bne_eq_false_iff_eq.mpr c5
 clear c5
 by_cases c6 : a2 = true
 subst c6
 replace H := ifT H
 obtain rfl := Option.some.inj H
 rotate_left
 replace c6 := Bool.eq_false_iff.mpr c6
 subst c6
 replace H := ifF H
 obtain rfl := Option.some.inj H
 rotate_left
 rw [if_neg c5] at H
 have Ag : (Aa == 0) = false := beq_eq_false_iff_ne.mpr c5
 have Ah : (Aa != 0) = true := bne_iff_ne.mpr c5
 obtain rfl := Option.some.inj H
 rotate_left
 all_goals
  go_enter Tryz.func18, Tryz.ntmps18
  go_wp2_with (first | ((with_reducible refine gd 4 rfl ?_); refine bx #[.int .i64 Ab, .int .i64 Ac, .int .i64 Ad] 30 ?_; intro Ao hg w7 Ae hb; have Af := ngw0 hg HB; replace HB := bS0 HB hb; clear hb hg; obtain ⟨Ai, Aj, Ak, Al, Am, An⟩ := bz3 Ae) | ((with_reducible refine gate_callee (f := 43) rfl ?_); refine gl 10 Tryz.func43 #[.int .i64 a0, .agg #[.int .i64 Ab, .int .i64 Ac, .int .i64 Ad]] ?_; (with_reducible refine (spec_l04Code.calls _ _ _ _ _ _ A4.out).mono ?_); rintro e w9 ⟨rfl, hb⟩; refine ⟨_, rfl, ?_⟩; replace Ae := bB Ae hb; replace HB := bS1 HB Af hb; (try clear hb)))
  go_ret
  exact er (bbw1 HB Af)
def spec_l02Det.f (Aa : Int) (Ab : Int) (Ac : Int) (Ad : Int) : Option (Int) := some (wrap64 ((wrap64 (Aa * Ad)) - (wrap64 (Ab * Ac))))
theorem spec_l02Det.calls (Aa : Int) (Ab : Int) (Ac : Int) (Ad : Int) (r : Int) (w : World) (h : spec_l02Det.f Aa Ab Ac Ad = some r) :
  Calls Tryz.prog 21 #[.agg #[.int .i64 Aa, .int .i64 Ab, .int .i64 Ac, .int .i64 Ad]] w fun e w' => e = .returned (.int .i64 r) ∧ Below w.heap.size w w' := by
 have hu42 := Tryz.underlying42
 have HB := asd (Below.refl w.heap.size w)
 have H : (some (wrap64 ((wrap64 (Aa * Ad)) - (wrap64 (Ab * Ac))))) = some r := h
 clear h
 obtain rfl := Option.some.inj H
 go_enter Tryz.func21, Tryz.ntmps21
 go_wp2_with (first | ((with_reducible refine gd 1 rfl ?_); refine bx #[.int .i64 Aa, .int .i64 Ab, .int .i64 Ac, .int .i64 Ad] 42 ?_; intro Ao hg w2 Ae hb; have Af := ngw0 hg HB; replace HB := bS0 HB hb; clear hb hg; obtain ⟨Ag, Ah, Ai, Aj, Ak, Al, Am, An⟩ := bz4 Ae))
 go_ret
 exact er (bbw1 HB Af)
def spec_IsVec.f (Aa : Int) (Ab : Int) : Option (Bool) := (spec_l01In.f Aa (-1000) 1000).bind fun Ac => (if Ac = true then ((spec_l01In.f Ab (-1000) 1000).bind fun Ad => (some Ad)) else (some false))
theorem spec_IsVec.calls (Aa : Int) (Ab : Int) (r : Bool) (w : World) (h : spec_IsVec.f Aa Ab = some r) :
  Calls Tryz.prog 81 #[.agg #[.int .i64 Aa, .int .i64 Ab]] w fun e w' => e = .returned (.bool r) ∧ Below w.heap.size w w' := by
 have hu44 := Tryz.underlying44
 have HB := asd (Below.refl w.heap.size w)
 have H : ((spec_l01In.f Aa (-1000) 1000).bind fun Ac => (if Ac = true then ((spec_l01In.f Ab (-1000) 1000).bind fun Ad => (some Ad)) else (some false))) = some r := h
 clear h
 obtain ⟨Ac, A2, H⟩ := ob H
 try dsimp only at H
 by_cases c3 : Ac = true
 subst c3
 replace H := ifT H
 obtain ⟨Ad, A4, H⟩ := ob H
 try dsimp only at H
 obtain rfl := Option.some.inj H
 rotate_left
 replace c3 := Bool.eq_false_iff.mpr c3
 subst c3
 replace H := ifF H
 obtain rfl := Option.some.inj H
 rotate_left
 all_goals
  go_enter Tryz.func81, Tryz.ntmps81
  go_wp2_with (first | ((with_reducible refine gd 1 rfl ?_); refine bx #[.int .i64 Aa, .int .i64 Ab] 44 ?_; intro Ak hg w5 Ae hb; have Af := ngw0 hg HB; replace HB := bS0 HB hb; clear hb hg; obtain ⟨Ag, Ah, Ai, Aj⟩ := bz2 Ae) | ((with_reducible refine gate_callee (f := 100) rfl ?_); refine gl 5 Tryz.func100 #[.int .i64 Aa, .int .i64 (-1000), .int .i64 1000] ?_; (with_reducible refine (spec_l01In.calls _ _ _ _ _ A2.out).mono ?_); rintro e w' ⟨rfl, ⟨nd, rfl⟩⟩; refine ⟨_, rfl, ?_⟩) | (go_at_call 100; (with_reducible refine (spec_l01In.calls _ _ _ _ _ A4.out).mono ?_); rintro e w' ⟨rfl, ⟨nd, rfl⟩⟩))
  go_ret
  exact er (bbw1 HB Af)
def spec_l02Small.f (Ac : Int) (Ad : Int) (Ae : Int) (Af : Int) : Option (Bool) := (spec_IsVec.f Ac Ad).bind fun Ag => (if Ag = true then ((spec_IsVec.f Ae Af).bind fun Ah => (some Ah)) else (some false))
theorem spec_l02Small.calls (Ac : Int) (Ad : Int) (Ae : Int) (Af : Int) (r : Bool) (w : World) (h : spec_l02Small.f Ac Ad Ae Af = some r) :
  Calls Tryz.prog 51 #[.agg #[.int .i64 Ac, .int .i64 Ad, .int .i64 Ae, .int .i64 Af]] w fun e w' => e = .returned (.bool r) ∧ Below w.heap.size w w' := by
 have hu42 := Tryz.underlying42
 have hu44 := Tryz.underlying44
 have HB := asd (Below.refl w.heap.size w)
 have H : ((spec_IsVec.f Ac Ad).bind fun Ag => (if Ag = true then ((spec_IsVec.f Ae Af).bind fun Ah => (some Ah)) else (some false))) = some r := h
 clear h
 obtain ⟨Ag, A2, H⟩ := ob H
 try dsimp only at H
 by_cases c3 : Ag = true
 ·subst c3
  replace H := ifT H
  obtain ⟨Ah, A4, H⟩ := ob H
  try dsimp only at H
  obtain rfl := Option.some.inj H
  go_enter Tryz.func51, Tryz.ntmps51
  go_wp2_with (first | ((with_reducible refine gd 1 rfl ?_); refine bx #[.int .i64 Ac, .int .i64 Ad, .int .i64 Ae, .int .i64 Af] 42 ?_; intro Ai hg w5 Aa hb; have Ab := ngw0 hg HB; replace HB := bS0 HB hb; clear hb hg; obtain ⟨Ar, As, At, Au, Av, Aw, Ax, Ay⟩ := bz4 Aa) | ((with_reducible refine gate_callee (f := 81) rfl ?_); refine gl 8 Tryz.func81 #[.agg #[.int .i64 Ac, .int .i64 Ad]] ?_; (with_reducible refine (spec_IsVec.calls _ _ _ _ A2.out).mono ?_); rintro e w7 ⟨rfl, hb⟩; refine ⟨_, rfl, ?_⟩; replace Aa := bB Aa hb; replace HB := bS1 HB Ab hb; (try clear hb); obtain ⟨Az, AA, AB, AC, AD, AE, AF, AG⟩ := bz4 Aa) | (go_at_call 81; (with_reducible refine (spec_IsVec.calls _ _ _ _ A4.out).mono ?_); rintro e w9 ⟨rfl, hb⟩; replace Aa := bB Aa hb; replace HB := bS1 HB Ab hb; (try clear hb)))
  go_ret
  exact er (bbw1 HB Ab)
 ·replace c3 := Bool.eq_false_iff.mpr c3
  subst c3
  replace H := ifF H
  obtain rfl := Option.some.inj H
  go_enter Tryz.func51, Tryz.ntmps51
  go_wp2_with (first | ((with_reducible refine gd 1 rfl ?_); refine bx #[.int .i64 Ac, .int .i64 Ad, .int .i64 Ae, .int .i64 Af] 42 ?_; intro Ai hg AH Aa hb; have Ab := ngw0 hg HB; replace HB := bS0 HB hb; clear hb hg; obtain ⟨Aj, Ak, Al, Am, An, Ao, Ap, Aq⟩ := bz4 Aa) | ((with_reducible refine gate_callee (f := 81) rfl ?_); refine gl 8 Tryz.func81 #[.agg #[.int .i64 Ac, .int .i64 Ad]] ?_; (with_reducible refine (spec_IsVec.calls _ _ _ _ A2.out).mono ?_); rintro e w12 ⟨rfl, hb⟩; refine ⟨_, rfl, ?_⟩; replace Aa := bB Aa hb; replace HB := bS1 HB Ab hb; (try clear hb)))
  go_ret
  exact er (bbw1 HB Ab)
def spec_IsMat.f (Ac : Int) (Ad : Int) (Ae : Int) (Af : Int) : Option (Bool) := (spec_l02Small.f Ac Ad Ae Af).bind fun Ah => (if Ah = true then ((spec_l02Det.f Ac Ad Ae Af).bind fun Ag => (if Ag = 1 then (some true) else ((spec_l02Det.f Ac Ad Ae Af).bind fun Ai => (some (Ai == (-1)))))) else (some false))
theorem spec_IsMat.calls (Ac : Int) (Ad : Int) (Ae : Int) (Af : Int) (r : Bool) (w : World) (h : spec_IsMat.f Ac Ad Ae Af = some r) :
  Calls Tryz.prog 101 #[.agg #[.int .i64 Ac, .int .i64 Ad, .int .i64 Ae, .int .i64 Af]] w fun e w' => e = .returned (.bool r) ∧ Below w.heap.size w w' := by
 have hu42 := Tryz.underlying42
 have HB := asd (Below.refl w.heap.size w)
 have H : ((spec_l02Small.f Ac Ad Ae Af).bind fun Ah => (if Ah = true then ((spec_l02Det.f Ac Ad Ae Af).bind fun Ag => (if Ag = 1 then (some true) else ((spec_l02Det.f Ac Ad Ae Af).bind fun Ai => (some (Ai == (-1)))))) else (some false))) = some r := h
 clear h
 obtain ⟨Ah, A2, H⟩ := ob H
 try dsimp only at H
 by_cases c3 : Ah = true
 ·subst c3
  replace H := ifT H
  obtain ⟨Ag, A4, H⟩ := ob H
  try dsimp only at H
  by_cases c5 : Ag = 1
  ·rw [if_pos c5] at H
   have AQ : (Ag == 1) = true := beq_iff_eq.mpr c5
   have AR : (Ag != 1) = false := bne_eq_false_iff_eq.mpr c5
   clear c5
   obtain rfl := Option.some.inj H
   go_enter Tryz.func101, Tryz.ntmps101
   go_wp2_with (first | ((with_reducible refine gd 1 rfl ?_); refine bx #[.int .i64 Ac, .int .i64 Ad, .int .i64 Ae, .int .i64 Af] 42 ?_; intro Aj hg w6 Aa hb; have Ab := ngw0 hg HB; replace HB := bS0 HB hb; clear hb hg; obtain ⟨AS, AT, AU, AV, AW, AX, AY, AZ⟩ := bz4 Aa) | ((with_reducible refine gate_callee (f := 51) rfl ?_); refine gl 4 Tryz.func51 #[.agg #[.int .i64 Ac, .int .i64 Ad, .int .i64 Ae, .int .i64 Af]] ?_; (with_reducible refine (spec_l02Small.calls _ _ _ _ _ _ A2.out).mono ?_); rintro e w8 ⟨rfl, hb⟩; refine ⟨_, rfl, ?_⟩; replace Aa := bB Aa hb; replace HB := bS1 HB Ab hb; (try clear hb); obtain ⟨A0, A1, A3, A5, A6, A7, A8, A9⟩ := bz4 Aa) | (go_at_call 21; (with_reducible refine (spec_l02Det.calls _ _ _ _ _ _ A4.out).mono ?_); rintro e Bb ⟨rfl, hb⟩; replace Aa := bB Aa hb; replace HB := bS1 HB Ab hb; (try clear hb)))
   go_ret
   exact er (bbw1 HB Ab)
  ·rw [if_neg c5] at H
   have AQ : (Ag == 1) = false := beq_eq_false_iff_ne.mpr c5
   have AR : (Ag != 1) = true := bne_iff_ne.mpr c5
   obtain ⟨Ai, Ba, H⟩ := ob H
   try dsimp only at H
   have e_ : Ag = Ai := Option.some.inj (A4.out.symm.trans Ba.out)
   subst e_
   obtain rfl := Option.some.inj H
   go_enter Tryz.func101, Tryz.ntmps101
   go_wp2_with (first | ((with_reducible refine gd 1 rfl ?_); refine bx #[.int .i64 Ac, .int .i64 Ad, .int .i64 Ae, .int .i64 Af] 42 ?_; intro Aj hg w12 Aa hb; have Ab := ngw0 hg HB; replace HB := bS0 HB hb; clear hb hg; obtain ⟨Ak, Al, Am, An, Ao, Ap, Aq, Ar⟩ := bz4 Aa) | ((with_reducible refine gate_callee (f := 51) rfl ?_); refine gl 4 Tryz.func51 #[.agg #[.int .i64 Ac, .int .i64 Ad, .int .i64 Ae, .int .i64 Af]] ?_; (with_reducible refine (spec_l02Small.calls _ _ _ _ _ _ A2.out).mono ?_); rintro e Bc ⟨rfl, hb⟩; refine ⟨_, rfl, ?_⟩; replace Aa := bB Aa hb; replace HB := bS1 HB Ab hb; (try clear hb); obtain ⟨As, At, Au, Av, Aw, Ax, Ay, Az⟩ := bz4 Aa) | (go_at_call 21; (with_reducible refine (spec_l02Det.calls _ _ _ _ _ _ A4.out).mono ?_); rintro e Bd ⟨rfl, hb⟩; replace Aa := bB Aa hb; replace HB := bS1 HB Ab hb; (try clear hb); obtain ⟨AA, AB, AC, AD, AE, AF, AG, AH⟩ := bz4 Aa) | (go_at_call 21; (with_reducible refine (spec_l02Det.calls _ _ _ _ _ _ Ba.out).mono ?_); rintro e Be ⟨rfl, hb⟩; replace Aa := bB Aa hb; replace HB := bS1 HB Ab hb; (try clear hb)))
   go_ret
   exact er (bbw1 HB Ab)
 ·replace c3 := Bool.eq_false_iff.mpr c3
  subst c3
  replace H := ifF H
  obtain rfl := Option.some.inj H
  go_enter Tryz.func101, Tryz.ntmps101
  go_wp2_with (first | ((with_reducible refine gd 1 rfl ?_); refine bx #[.int .i64 Ac, .int .i64 Ad, .int .i64 Ae, .int .i64 Af] 42 ?_; intro Aj hg Bf Aa hb; have Ab := ngw0 hg HB; replace HB := bS0 HB hb; clear hb hg; obtain ⟨AI, AJ, AK, AL, AM, AN, AO, AP⟩ := bz4 Aa) | ((with_reducible refine gate_callee (f := 51) rfl ?_); refine gl 4 Tryz.func51 #[.agg #[.int .i64 Ac, .int .i64 Ad, .int .i64 Ae, .int .i64 Af]] ?_; (with_reducible refine (spec_l02Small.calls _ _ _ _ _ _ A2.out).mono ?_); rintro e Bg ⟨rfl, hb⟩; refine ⟨_, rfl, ?_⟩; replace Aa := bB Aa hb; replace HB := bS1 HB Ab hb; (try clear hb)))
  go_ret
  exact er (bbw1 HB Ab)
def spec_l04Norm.f (a0 : Int) (Aa : Int) (Ab : Int) : Option (Int) := if a0 = 1 then (some (wrap64 ((wrap64 ((wrap64 (Aa * Aa)) + (wrap64 (Ab * Ab)))) + (wrap64 (Aa * Ab))))) else (some (wrap64 ((wrap64 (Aa * Aa)) + (wrap64 (Ab * Ab)))))
theorem spec_l04Norm.calls (a0 : Int) (Aa : Int) (Ab : Int) (r : Int) (w : World) (h : spec_l04Norm.f a0 Aa Ab = some r) :
  Calls Tryz.prog 23 #[.int .i64 a0, .agg #[.int .i64 Aa, .int .i64 Ab]] w fun e w' => e = .returned (.int .i64 r) ∧ Below w.heap.size w w' := by
 have hu44 := Tryz.underlying44
 have HB := asd (Below.refl w.heap.size w)
 have H : (if a0 = 1 then (some (wrap64 ((wrap64 ((wrap64 (Aa * Aa)) + (wrap64 (Ab * Ab)))) + (wrap64 (Aa * Ab))))) else (some (wrap64 ((wrap64 (Aa * Aa)) + (wrap64 (Ab * Ab)))))) = some r := h
 clear h
 by_cases c3 : a0 = 1
 rw [if_pos c3] at H
 have Ae : (a0 == 1) = true := beq_iff_eq.mpr c3
 have Af : (a0 != 1) = false := bne_eq_false_iff_eq.mpr c3
 clear c3
 obtain rfl := Option.some.inj H
 rotate_left
 rw [if_neg c3] at H
 have Ae : (a0 == 1) = false := beq_eq_false_iff_ne.mpr c3
 have Af : (a0 != 1) = true := bne_iff_ne.mpr c3
 obtain rfl := Option.some.inj H
 rotate_left
 all_goals
  go_enter Tryz.func23, Tryz.ntmps23
  go_wp2_with (first | ((with_reducible refine gd 3 rfl ?_); refine bx #[.int .i64 Aa, .int .i64 Ab] 44 ?_; intro Ak hg w4 Ac hb; have Ad := ngw0 hg HB; replace HB := bS0 HB hb; clear hb hg; obtain ⟨Ag, Ah, Ai, Aj⟩ := bz2 Ac))
  go_ret
  exact er (bbw1 HB Ad)
def spec_l01Add.f (Ad : Int) (Ae : Int) (Af : Int) (Ag : Int) : Option (Int × Int) := some (wrap64 (Ad + Af), wrap64 (Ae + Ag))
theorem spec_l01Add.calls (Ad : Int) (Ae : Int) (Af : Int) (Ag : Int) (r1 : Int) (r2 : Int) (w : World) (h : spec_l01Add.f Ad Ae Af Ag = some (r1, r2)) :
  Calls Tryz.prog 86 #[.agg #[.int .i64 Ad, .int .i64 Ae], .agg #[.int .i64 Af, .int .i64 Ag]] w fun e w' => e = .returned (.agg #[.int .i64 r1, .int .i64 r2]) ∧ Below w.heap.size w w' := by
 have hu44 := Tryz.underlying44
 have HB := asd (Below.refl w.heap.size w)
 have H : (some (wrap64 (Ad + Af), wrap64 (Ae + Ag))) = some (r1, r2) := h
 clear h
 simp only [Option.some.injEq, Prod.mk.injEq] at H
 obtain ⟨rfl, rfl⟩ := H
 go_enter Tryz.func86, Tryz.ntmps86
 go_wp2_with (first | ((with_reducible refine gd 2 rfl ?_); refine bx #[.int .i64 Ad, .int .i64 Ae] 44 ?_; intro AD hg w3 Aa hb; have Ab := ngw0 hg HB; replace HB := bS0 HB hb; clear hb hg) | ((with_reducible refine gd 3 rfl ?_); refine bx #[.int .i64 Af, .int .i64 Ag] 44 ?_; intro AE hg w4 Ac hb; have An := ngw1 hg HB Ab; replace HB := bS1 HB Ab hb; have Ah := nlt hg Aa; have Ai := nsy (nlt hg Aa); replace Aa := bB Aa hb; clear hb hg) | ((with_reducible refine gd 4 rfl ?_); refine bx #[.int .i64 0, .int .i64 0] 44 ?_; intro Ap hg w5 Ao hb; have Aq := ngw2 hg HB Ab An; replace HB := bS2 HB Ab An hb; have Aj := nlt hg Aa; have Ak := nsy (nlt hg Aa); replace Aa := bB Aa hb; have Al := nlt hg Ac; have Am := nsy (nlt hg Ac); replace Ac := bB Ac hb; clear hb hg; have AF := Ah.out; have AG := Ai.out; have AH := Aj.out; have AI := Ak.out; obtain ⟨Az, AA, AB, AC⟩ := bz2 Aa; have AJ := Al.out; have AK := Am.out; obtain ⟨Ar, As, At, Au⟩ := bz2 Ac; obtain ⟨Av, Aw, Ax, Ay⟩ := bz2 Ao))
 refine bodyPost_ret (results_cell_row rfl _ _ Ap 44 #[.int .i64 (wrap64 (Ad + Af)), .int .i64 (wrap64 (Ae + Ag))] (0, 0) _ rfl (bq0 Ao) Tryz.underlying44 rfl (by kernel_rfl)) rfl ?_
 exact er (bbw3 HB Ab An Aq)
def spec_l04Keeps.f (a0 : Int) (Ap : Int) (Ar : Int) (Aq : Int) (As : Int) : Option (Bool) := (spec_l04Norm.f a0 Ap Aq).bind fun At => (if At = 1 then ((spec_l04Norm.f a0 Ar As).bind fun Au => (if Au = 1 then ((spec_l01Add.f Ap Aq Ar As).bind fun Av => ((spec_l04Norm.f a0 Av.1 Av.2).bind fun Az => (some (Az == (wrap64 (2 + a0)))))) else (some false))) else (some false))
def spec_l04Keeps.T1 : Bool × List (List Nat × List Nat) := (true, [([], []), ([0], [0]), ([], []), ([2], [2]), ([1, 3], [1, 3]), ([], []), ([5], [5]), ([], []), ([7], [7]), ([6, 8], [6, 8]), ([], []), ([], []), ([10, 4, 0, 1, 2, 3, 4, 10, 11], [4, 10]), ([11, 9, 12, 0, 1, 2, 3, 4, 5, 6, 7, 8, 9, 10, 11, 12], [9, 11])])
def spec_l04Keeps.B1 : List Nat := [0, 1, 0, 4, 15, 0, 32, 0, 128, 480, 0, 0, 3103, 8191]
theorem spec_l04Keeps.tab1 : rtab .any (opsOf Tryz.f102 1) = spec_l04Keeps.T1 := by kernel_rfl
theorem spec_l04Keeps.bits1 : waitsOk spec_l04Keeps.T1.2 spec_l04Keeps.B1 = true := by kernel_rfl
theorem spec_l04Keeps.calls (a0 : Int) (Ap : Int) (Ar : Int) (Aq : Int) (As : Int) (r : Bool) (w : World) (h : spec_l04Keeps.f a0 Ap Ar Aq As = some r) :
  Calls Tryz.prog 102 #[.int .i64 a0, .agg #[.int .i64 Ap, .int .i64 Ar, .int .i64 Aq, .int .i64 As]] w fun e w' => e = .returned (.bool r) ∧ Below w.heap.size w w' := by
 have hu42 := Tryz.underlying42
 have hu44 := Tryz.underlying44
 have HB := asd (Below.refl w.heap.size w)
 have H : ((spec_l04Norm.f a0 Ap Aq).bind fun At => (if At = 1 then ((spec_l04Norm.f a0 Ar As).bind fun Au => (if Au = 1 then ((spec_l01Add.f Ap Aq Ar As).bind fun Av => ((spec_l04Norm.f a0 Av.1 Av.2).bind fun Az => (some (Az == (wrap64 (2 + a0)))))) else (some false))) else (some false))) = some r := h
 clear h
 obtain ⟨At, A3, H⟩ := ob H
 try dsimp only at H
 by_cases c4 : At = 1
 rw [if_pos c4] at H
 have Bi : (At == 1) = true := beq_iff_eq.mpr c4
 have Bj : (At != 1) = false := bne_eq_false_iff_eq.mpr c4
 clear c4
 obtain ⟨Au, A5, H⟩ := ob H
 try dsimp only at H
 by_cases c6 : Au = 1
 rw [if_pos c6] at H
 have Bk : (Au == 1) = true := beq_iff_eq.mpr c6
 have Bl : (Au != 1) = false := bne_eq_false_iff_eq.mpr c6
 clear c6
 obtain ⟨⟨BE, BF⟩, A7, H⟩ := ob H
 try dsimp only at H
 obtain ⟨Az, A8, H⟩ := ob H
 try dsimp only at H
 obtain rfl := Option.some.inj H
 rotate_left
 rw [if_neg c6] at H
 have Bk : (Au == 1) = false := beq_eq_false_iff_ne.mpr c6
 have Bl : (Au != 1) = true := bne_iff_ne.mpr c6
 obtain rfl := Option.some.inj H
 rotate_left
 rw [if_neg c4] at H
 have Bi : (At == 1) = false := beq_eq_false_iff_ne.mpr c4
 have Bj : (At != 1) = true := bne_iff_ne.mpr c4
 obtain rfl := Option.some.inj H
 rotate_left
 all_goals
  go_enter Tryz.func102, Tryz.ntmps102
  try go_wp2_with (first | ((with_reducible refine gd 3 rfl ?_); refine bx #[.int .i64 Ap, .int .i64 Ar, .int .i64 Aq, .int .i64 As] 42 ?_; intro Ai hg w9 Aa hb; have Ah := ngw0 hg HB; replace HB := bS0 HB hb; clear hb hg))
  replace Aa := asd (blk_drew Aa.out)
  replace HB := asd (below_drew1 HB.out)
  refine sh 14 (eb4 Aa) (fun hHeld => ?_); refine with_tabW spec_l04Keeps.tab1 spec_l04Keeps.bits1 (fun HT_ HW_ => ?_)
  generalize w9.drew = BH at Aa HB hHeld ⊢
  refine pu 0 (some 7) (bT 14 1) HT_ ?_
  refine pu 2 (some 9) (bs 14 5) HT_ ?_
  refine pu 5 (some 12) (bs 14 37) HT_ ?_
  refine pu 7 (some 14) (bs 14 165) HT_ ?_
  refine ta 1 (some 8) (bs 14 167) HT_ HW_ hHeld ?_
  refine ta 3 (some 10) (bs 14 175) HT_ HW_ hHeld ?_
  refine pu 4 (some 11) (bs 14 191) HT_ ?_
  refine ta 6 (some 13) (bT 14 8) HT_ HW_ hHeld ?_
  refine ta 8 (some 15) (bT 14 9) HT_ HW_ hHeld ?_
  refine pu 9 (some 16) (bT 14 10) HT_ ?_
  refine join_ (σ := Nat × Nat) 2 (bT 14 12) (fun s_ => [(5, .pointer (some ⟨s_.1, 0, none⟩)), (6, .pointer (some ⟨s_.2, 0, none⟩))]) (fun s_ w' => (w'.cell? ⟨Ai, 0, none⟩ = some (.int .i64 Ap) ∧ w'.cell? ⟨Ai, 1, none⟩ = some (.int .i64 Ar) ∧ w'.cell? ⟨Ai, 2, none⟩ = some (.int .i64 Aq) ∧ w'.cell? ⟨Ai, 3, none⟩ = some (.int .i64 As)) ∧ (w'.heap[Ai]? = some (.cells #[.int .i64 Ap, .int .i64 Ar, .int .i64 Aq, .int .i64 As] 42 (0, 0))) ∧ (w'.heap[s_.1]? = some (.cells #[.int .i64 0, .int .i64 0] 44 (0, 0))) ∧ (w'.heap[s_.2]? = some (.cells #[.int .i64 0, .int .i64 0] 44 (0, 0))) ∧ (w.heap.size ≤ s_.1) ∧ (w.heap.size ≤ s_.1) ∧ (Ai ≠ s_.1) ∧ (s_.1 ≠ Ai) ∧ (s_.2 ≠ s_.1) ∧ (s_.1 ≠ s_.2) ∧ (w.heap.size ≤ s_.2) ∧ (w.heap.size ≤ s_.2) ∧ (Ai ≠ s_.2) ∧ (s_.2 ≠ Ai) ∧ (Below w.heap.size w w')) ?_ ?_
  rotate_left
  ·intro hCont
   refine two_ (i := 10) (j := 11) (Ni := some 5) (Nj := some 6) (bT 14 11) (bs 14 3071) rfl rfl rfl rfl (two_of HT_.out (by kernel_rfl)) (by decide) (by decide) (fun K hK => ?_) (fun K hK => ?_)
   ·skip
    refine box_step ?hg (N := 5) ?hd (cs := #[.int .i64 0, .int .i64 0]) (t := 44) ?hr ?_; (case hd => rfl); (case hg => rfl); (case hr => first | (go_simp; done) | (go_simp; rfl))
    intro An hg BG hbox hb
    have Ag := asd (hbox)
    have Aw := ngw1 hg HB Ah
    have Al := ngw1 hg HB Ah
    replace HB := bS1 HB Ah hb
    have Ac := nlt hg Aa
    have Ak := nsy (nlt hg Aa)
    replace Aa := bB Aa hb
    clear hb hbox hg
    refine hK.out _ _ (eb4 Aa).out (fun hHeld => ?_)
    clear hK K
    refine norm_ (a' := ?_) ?_ ?_
    rotate_left
    ·show Act.put _ (some 5) _ = _
     simp only [Act.put, sA, sB, sC, i64_w, i32_w]
     rfl
    refine ro 11 (some 6) (bT 14 12) HT_ (fun K hK => ?_)
    refine box_step ?hg (N := 6) ?hd (cs := #[.int .i64 0, .int .i64 0]) (t := 44) ?hr ?_; (case hd => rfl); (case hg => rfl); (case hr => first | (go_simp; done) | (go_simp; rfl))
    intro Ao hg w12 hbox hb
    have Af := asd (hbox)
    have Ax := ngw2 hg HB Ah Al
    have Am := ngw2 hg HB Ah Al
    replace HB := bS2 HB Ah Al hb
    have Ab := nlt hg Aa
    have Aj := nsy (nlt hg Aa)
    replace Aa := bB Aa hb
    have Ad := nlt hg Ag
    have Ae := nsy (nlt hg Ag)
    replace Ag := bB Ag hb
    clear hb hbox hg
    refine hK.out _ _ (eb4 Aa).out (fun hHeld => ?_)
    clear hK K
    refine norm_ (a' := ?_) ?_ ?_
    rotate_left
    ·show Act.put _ (some 6) _ = _
     simp only [Act.put, sA, sB, sC, i64_w, i32_w]
     rfl
    exact norm_ (by simp only [putAll, Act.put, sA, sB, sC]) (hCont (An, Ao) _ ⟨hHeld, (bkp Aa), (bkp Ag), (bkp Af), Aw.out, Al.out, Ac.out, Ak.out, Ae.out, Ad.out, Ax.out, Am.out, Ab.out, Aj.out, (bbw3 HB Ah Al Am)⟩)
   ·skip
    refine box_step ?hg (N := 6) ?hd (cs := #[.int .i64 0, .int .i64 0]) (t := 44) ?hr ?_; (case hd => rfl); (case hg => rfl); (case hr => first | (go_simp; done) | (go_simp; rfl))
    intro Ao hg BG hbox hb
    have Af := asd (hbox)
    have Ax := ngw1 hg HB Ah
    have Am := ngw1 hg HB Ah
    replace HB := bS1 HB Ah hb
    have Ab := nlt hg Aa
    have Aj := nsy (nlt hg Aa)
    replace Aa := bB Aa hb
    clear hb hbox hg
    refine hK.out _ _ (eb4 Aa).out (fun hHeld => ?_)
    clear hK K
    refine norm_ (a' := ?_) ?_ ?_
    rotate_left
    ·show Act.put _ (some 6) _ = _
     simp only [Act.put, sA, sB, sC, i64_w, i32_w]
     rfl
    refine ro 10 (some 5) (bT 14 12) HT_ (fun K hK => ?_)
    refine box_step ?hg (N := 5) ?hd (cs := #[.int .i64 0, .int .i64 0]) (t := 44) ?hr ?_; (case hd => rfl); (case hg => rfl); (case hr => first | (go_simp; done) | (go_simp; rfl))
    intro An hg w12 hbox hb
    have Ag := asd (hbox)
    have Aw := ngw2 hg HB Ah Am
    have Al := ngw2 hg HB Ah Am
    replace HB := bS2 HB Ah Am hb
    have Ac := nlt hg Aa
    have Ak := nsy (nlt hg Aa)
    replace Aa := bB Aa hb
    have Ae := nlt hg Af
    have Ad := nsy (nlt hg Af)
    replace Af := bB Af hb
    clear hb hbox hg
    refine hK.out _ _ (eb4 Aa).out (fun hHeld => ?_)
    clear hK K
    refine norm_ (a' := ?_) ?_ ?_
    rotate_left
    ·show Act.put _ (some 5) _ = _
     simp only [Act.put, sA, sB, sC, i64_w, i32_w]
     rfl
    exact norm_ (by simp only [putAll, Act.put, sA, sB, sC]) (hCont (An, Ao) _ ⟨hHeld, (bkp Aa), (bkp Ag), (bkp Af), Aw.out, Al.out, Ac.out, Ak.out, Ae.out, Ad.out, Ax.out, Am.out, Ab.out, Aj.out, (bbw3 HB Ah Am Al)⟩)
  rintro ⟨An, Ao⟩ Ay ⟨hS_, h0_, h1_, h2_, h3_, h4_, h5_, h6_, h7_, h8_, h9_, h10_, h11_, h12_, h13_⟩
  have Bm : Aside0 (Ay.heap[Ai]? = some (.cells #[.int .i64 Ap, .int .i64 Ar, .int .i64 Aq, .int .i64 As] 42 (0, 0))) := ⟨h0_⟩
  have Bn : Aside0 (Ay.heap[An]? = some (.cells #[.int .i64 0, .int .i64 0] 44 (0, 0))) := ⟨h1_⟩
  have Bo : Aside0 (Ay.heap[Ao]? = some (.cells #[.int .i64 0, .int .i64 0] 44 (0, 0))) := ⟨h2_⟩
  have Bp : Aside0 (w.heap.size ≤ An) := ⟨h3_⟩
  have Bq : Aside0 (w.heap.size ≤ An) := ⟨h4_⟩
  have Br : Aside0 (Ai ≠ An) := ⟨h5_⟩
  have Bs : Aside0 (An ≠ Ai) := ⟨h6_⟩
  have Bt : Aside0 (Ao ≠ An) := ⟨h7_⟩
  have Bu : Aside0 (An ≠ Ao) := ⟨h8_⟩
  have Bv : Aside0 (w.heap.size ≤ Ao) := ⟨h9_⟩
  have AA : Aside0 (w.heap.size ≤ Ao) := ⟨h10_⟩
  have AB : Aside0 (Ai ≠ Ao) := ⟨h11_⟩
  have AC : Aside0 (Ao ≠ Ai) := ⟨h12_⟩
  have AD : Aside0 (Below w.heap.size w Ay) := ⟨h13_⟩
  clear Aa
  clear HB
  clear h0_ h1_ h2_ h3_ h4_ h5_ h6_ h7_ h8_ h9_ h10_ h11_ h12_ h13_
  have Aa := Bm
  have Ag := Bn
  have Af := Bo
  have Aw := Bp
  have Al := Bq
  have Ac := Br
  have Ak := Bs
  have Ae := Bt
  have Ad := Bu
  have Ax := Bv
  have Am := AA
  have Ab := AB
  have Aj := AC
  have HB := AD
  clear Bm Bn Bo Bp Bq Br Bs Bt Bu Bv AA AB AC AD
  have hHeld : Ay.cell? ⟨Ai, 0, none⟩ = some (.int .i64 Ap) ∧ Ay.cell? ⟨Ai, 1, none⟩ = some (.int .i64 Ar) ∧ Ay.cell? ⟨Ai, 2, none⟩ = some (.int .i64 Aq) ∧ Ay.cell? ⟨Ai, 3, none⟩ = some (.int .i64 As) := hS_
  refine norm_ (a' := ?_) ?_ ?_
  rotate_left
  ·simp only [putAll, Act.put, sA, sB, sC]
   rfl
  refine ro 12 (none) (bT 14 13) HT_ (fun K hK => ?_)
  have hs14 : Ay.cell? ⟨An, 0, none⟩ = some (.int .i64 0) := bcl Ag 0
  have hfs14 := blk_frozen Ag.out 0
  have AE := Ac.out
  have AF := Ae.out
  have AG := Ak.out
  have AH := Ad.out
  have hs15 : Ay.cell? ⟨An, 1, none⟩ = some (.int .i64 0) := bcl Ag 1
  have hfs15 := blk_frozen Ag.out 1
  have AI := Ac.out
  have AJ := Ae.out
  have AK := Ak.out
  have AL := Ad.out
  refine skip_ (w1 := ?_) (by rfl) rfl ?_ ?_
  rotate_left
  ·go_simp
   rfl
  refine hK.out _ _ ⟨(cf2 Ac (hHeld.1)), (cf2 Ac (hHeld.2.1)), (cf2 Ac (hHeld.2.2.1)), (cf2 Ac (hHeld.2.2.2))⟩ (fun hHeld => ?_)
  clear hK K
  refine ro 13 (none) (bT 14 14) HT_ (fun K hK => ?_)
  have hs16 : Ay.cell? ⟨Ao, 0, none⟩ = some (.int .i64 0) := bcl Af 0
  have hfs16 := blk_frozen Af.out 0
  have AM := Ab.out
  have AN := Ad.out
  have AO := Aj.out
  have AP := Ae.out
  have hs17 : Ay.cell? ⟨Ao, 1, none⟩ = some (.int .i64 0) := bcl Af 1
  have hfs17 := blk_frozen Af.out 1
  have AQ := Ab.out
  have AR := Ad.out
  have AS := Aj.out
  have AT := Ae.out
  refine skip_ (w1 := ?_) (by rfl) rfl ?_ ?_
  rotate_left
  ·go_simp
   rfl
  refine hK.out _ _ ⟨(cf2 Ab (hHeld.1)), (cf2 Ab (hHeld.2.1)), (cf2 Ab (hHeld.2.2.1)), (cf2 Ab (hHeld.2.2.2))⟩ (fun hHeld => ?_)
  clear hK K
  refine done_ (done_of HT_.out (by kernel_rfl)) ?_
  have Bw := Ak.out
  have Bx := Ac.out
  have By := Ad.out
  have Bz := Ae.out
  obtain ⟨AU, AV, AW, AX⟩ := bz2 Ag
 try go_wp2_with (first | ((with_reducible refine gate_callee (f := 23) rfl ?_); refine gl 19 Tryz.func23 #[.int .i64 a0, .agg #[.int .i64 Ap, .int .i64 Aq]] ?_; (with_reducible refine (spec_l04Norm.calls _ _ _ _ _ A3.out).mono ?_); rintro e BI ⟨rfl, hb⟩; refine ⟨_, rfl, ?_⟩; replace Aa := asd (blk_below (g := Ai) (o := .cells #[.int .i64 Ap, .int .i64 Ar, .int .i64 Aq, .int .i64 As] 42 (0, 0)) (bq2 Aa Ab Ac) hb); replace Ag := asd (blk_below (g := An) (o := .cells #[.int .i64 Ap, .int .i64 Aq] 44 (0, 0)) (bq1 Ag Ad) hb); replace Af := asd (blk_below (g := Ao) (o := .cells #[.int .i64 Ar, .int .i64 As] 44 (0, 0)) (bq1 Af Ae) hb); replace HB := bS3 HB Ah Al Am hb; (try clear hb); have BA := Aj.out; have BB := Ab.out; obtain ⟨AY, AZ, A0, A1⟩ := bz2 Af) | (go_at_call 23; (with_reducible refine (spec_l04Norm.calls _ _ _ _ _ A5.out).mono ?_); rintro e BJ ⟨rfl, hb⟩; replace Aa := bB Aa hb; replace Ag := bB Ag hb; replace Af := bB Af hb; replace HB := bS3 HB Ah Al Am hb; (try clear hb); obtain ⟨A2, A4, A6, A9⟩ := bz2 Ag; obtain ⟨Ba, Bb, Bc, Bd⟩ := bz2 Af) | (go_at_call 86; (with_reducible refine (spec_l01Add.calls _ _ _ _ _ _ _ A7.out).mono ?_); rintro e BK ⟨rfl, hb⟩; replace Aa := bB Aa hb; replace Ag := bB Ag hb; replace Af := bB Af hb; replace HB := bS3 HB Ah Al Am hb; (try clear hb)) | (go_at_call 23; (with_reducible refine (spec_l04Norm.calls _ _ _ _ _ A8.out).mono ?_); rintro e BL ⟨rfl, hb⟩; replace Aa := bB Aa hb; replace Ag := bB Ag hb; replace Af := bB Af hb; replace HB := bS3 HB Ah Al Am hb; (try clear hb)))
 rotate_left
 try go_wp2_with (first | ((with_reducible refine gate_callee (f := 23) rfl ?_); refine gl 19 Tryz.func23 #[.int .i64 a0, .agg #[.int .i64 Ap, .int .i64 Aq]] ?_; (with_reducible refine (spec_l04Norm.calls _ _ _ _ _ A3.out).mono ?_); rintro e BM ⟨rfl, hb⟩; refine ⟨_, rfl, ?_⟩; replace Aa := asd (blk_below (g := Ai) (o := .cells #[.int .i64 Ap, .int .i64 Ar, .int .i64 Aq, .int .i64 As] 42 (0, 0)) (bq2 Aa Ab Ac) hb); replace Ag := asd (blk_below (g := An) (o := .cells #[.int .i64 Ap, .int .i64 Aq] 44 (0, 0)) (bq1 Ag Ad) hb); replace Af := asd (blk_below (g := Ao) (o := .cells #[.int .i64 Ar, .int .i64 As] 44 (0, 0)) (bq1 Af Ae) hb); replace HB := bS3 HB Ah Al Am hb; (try clear hb); have BC := Aj.out; have BD := Ab.out; obtain ⟨Be, Bf, Bg, Bh⟩ := bz2 Af) | (go_at_call 23; (with_reducible refine (spec_l04Norm.calls _ _ _ _ _ A5.out).mono ?_); rintro e BN ⟨rfl, hb⟩; replace Aa := bB Aa hb; replace Ag := bB Ag hb; replace Af := bB Af hb; replace HB := bS3 HB Ah Al Am hb; (try clear hb)))
 rotate_left
 try go_wp2_with (first | ((with_reducible refine gate_callee (f := 23) rfl ?_); refine gl 19 Tryz.func23 #[.int .i64 a0, .agg #[.int .i64 Ap, .int .i64 Aq]] ?_; (with_reducible refine (spec_l04Norm.calls _ _ _ _ _ A3.out).mono ?_); rintro e BO ⟨rfl, hb⟩; refine ⟨_, rfl, ?_⟩; replace Aa := asd (blk_below (g := Ai) (o := .cells #[.int .i64 Ap, .int .i64 Ar, .int .i64 Aq, .int .i64 As] 42 (0, 0)) (bq2 Aa Ab Ac) hb); replace Ag := asd (blk_below (g := An) (o := .cells #[.int .i64 Ap, .int .i64 Aq] 44 (0, 0)) (bq1 Ag Ad) hb); replace Af := asd (blk_below (g := Ao) (o := .cells #[.int .i64 Ar, .int .i64 As] 44 (0, 0)) (bq1 Af Ae) hb); replace HB := bS3 HB Ah Al Am hb; (try clear hb)))
 rotate_left
 all_goals
  go_ret
  exact er (bbw3 HB Ah Al Am)
def spec_IsPointMat.f (a0 : Int) (Ad : Int) (Ae : Int) (Af : Int) (Ag : Int) : Option (Bool) := (spec_IsFrame.f a0).bind fun Ah => (if Ah = true then ((spec_IsMat.f Ad Ae Af Ag).bind fun Ai => (if Ai = true then ((spec_l04Keeps.f a0 Ad Ae Af Ag).bind fun Aj => (some Aj)) else (some false))) else (some false))
theorem spec_IsPointMat.calls (a0 : Int) (Ad : Int) (Ae : Int) (Af : Int) (Ag : Int) (r : Bool) (w : World) (h : spec_IsPointMat.f a0 Ad Ae Af Ag = some r) :
  Calls Tryz.prog 79 #[.int .i64 a0, .agg #[.int .i64 Ad, .int .i64 Ae, .int .i64 Af, .int .i64 Ag]] w fun e w' => e = .returned (.bool r) ∧ Below w.heap.size w w' := by
 have hu42 := Tryz.underlying42
 have HB := asd (Below.refl w.heap.size w)
 have H : ((spec_IsFrame.f a0).bind fun Ah => (if Ah = true then ((spec_IsMat.f Ad Ae Af Ag).bind fun Ai => (if Ai = true then ((spec_l04Keeps.f a0 Ad Ae Af Ag).bind fun Aj => (some Aj)) else (some false))) else (some false))) = some r := h
 clear h
 obtain ⟨Ah, A3, H⟩ := ob H
 try dsimp only at H
 by_cases c4 : Ah = true
 ·subst c4
  replace H := ifT H
  obtain ⟨Ai, A5, H⟩ := ob H
  try dsimp only at H
  by_cases c6 : Ai = true
  ·subst c6
   replace H := ifT H
   obtain ⟨Aj, A7, H⟩ := ob H
   try dsimp only at H
   obtain rfl := Option.some.inj H
   go_enter Tryz.func79, Tryz.ntmps79
   go_wp2_with (first | ((with_reducible refine gd 3 rfl ?_); refine bx #[.int .i64 Ad, .int .i64 Ae, .int .i64 Af, .int .i64 Ag] 42 ?_; intro Ab hg w8 Aa hb; have Ac := ngw0 hg HB; replace HB := bS0 HB hb; clear hb hg) | ((with_reducible refine gate_callee (f := 77) rfl ?_); refine gl 6 Tryz.func77 #[.int .i64 a0] ?_; (with_reducible refine (spec_IsFrame.calls _ _ _ A3.out).mono ?_); rintro e w' ⟨rfl, ⟨nd, rfl⟩⟩; refine ⟨_, rfl, ?_⟩; have AB : w8.cell? ⟨Ab, 0, none⟩ = some (.int .i64 Ad) := bcl Aa 0; have AC : w8.cell? ⟨Ab, 1, none⟩ = some (.int .i64 Ae) := bcl Aa 1; have AD : w8.cell? ⟨Ab, 2, none⟩ = some (.int .i64 Af) := bcl Aa 2; have AE : w8.cell? ⟨Ab, 3, none⟩ = some (.int .i64 Ag) := bcl Aa 3; have AF := blk_frozen Aa.out 0; have AG := blk_frozen Aa.out 1; have AH := blk_frozen Aa.out 2; have AI := blk_frozen Aa.out 3) | (go_at_call 101; (with_reducible refine (spec_IsMat.calls _ _ _ _ _ _ A5.out).mono ?_); rintro e AJ ⟨rfl, hb⟩; replace Aa := bB Aa hb; replace HB := bS1 HB Ac hb; (try clear hb); obtain ⟨Ak, Al, Am, An, Ao, Ap, Aq, Ar⟩ := bz4 Aa) | (go_at_call 102; (with_reducible refine (spec_l04Keeps.calls _ _ _ _ _ _ _ A7.out).mono ?_); rintro e w12 ⟨rfl, hb⟩; replace Aa := bB Aa hb; replace HB := bS1 HB Ac hb; (try clear hb)))
   go_ret
   exact er (bbw1 HB Ac)
  ·replace c6 := Bool.eq_false_iff.mpr c6
   subst c6
   replace H := ifF H
   obtain rfl := Option.some.inj H
   go_enter Tryz.func79, Tryz.ntmps79
   go_wp2_with (first | ((with_reducible refine gd 3 rfl ?_); refine bx #[.int .i64 Ad, .int .i64 Ae, .int .i64 Af, .int .i64 Ag] 42 ?_; intro Ab hg As Aa hb; have Ac := ngw0 hg HB; replace HB := bS0 HB hb; clear hb hg) | ((with_reducible refine gate_callee (f := 77) rfl ?_); refine gl 6 Tryz.func77 #[.int .i64 a0] ?_; (with_reducible refine (spec_IsFrame.calls _ _ _ A3.out).mono ?_); rintro e w' ⟨rfl, ⟨nd, rfl⟩⟩; refine ⟨_, rfl, ?_⟩; have At : As.cell? ⟨Ab, 0, none⟩ = some (.int .i64 Ad) := bcl Aa 0; have Au : As.cell? ⟨Ab, 1, none⟩ = some (.int .i64 Ae) := bcl Aa 1; have Av : As.cell? ⟨Ab, 2, none⟩ = some (.int .i64 Af) := bcl Aa 2; have Aw : As.cell? ⟨Ab, 3, none⟩ = some (.int .i64 Ag) := bcl Aa 3; have Ax := blk_frozen Aa.out 0; have Ay := blk_frozen Aa.out 1; have Az := blk_frozen Aa.out 2; have AA := blk_frozen Aa.out 3) | (go_at_call 101; (with_reducible refine (spec_IsMat.calls _ _ _ _ _ _ A5.out).mono ?_); rintro e AK ⟨rfl, hb⟩; replace Aa := bB Aa hb; replace HB := bS1 HB Ac hb; (try clear hb)))
   go_ret
   exact er (bbw1 HB Ac)
 ·replace c4 := Bool.eq_false_iff.mpr c4
  subst c4
  replace H := ifF H
  obtain rfl := Option.some.inj H
  go_enter Tryz.func79, Tryz.ntmps79
  go_wp2_with (first | ((with_reducible refine gd 3 rfl ?_); refine bx #[.int .i64 Ad, .int .i64 Ae, .int .i64 Af, .int .i64 Ag] 42 ?_; intro Ab hg AL Aa hb; have Ac := ngw0 hg HB; replace HB := bS0 HB hb; clear hb hg) | ((with_reducible refine gate_callee (f := 77) rfl ?_); refine gl 6 Tryz.func77 #[.int .i64 a0] ?_; (with_reducible refine (spec_IsFrame.calls _ _ _ A3.out).mono ?_); rintro e w' ⟨rfl, ⟨nd, rfl⟩⟩; refine ⟨_, rfl, ?_⟩))
  go_ret
  exact er (bbw1 HB Ac)
def spec_l02Apply.f (Af : Int) (Ag : Int) (Ah : Int) (Ai : Int) (Ab : Int) (Ac : Int) : Option (Int × Int) := some (wrap64 ((wrap64 (Af * Ab)) + (wrap64 (Ag * Ac))), wrap64 ((wrap64 (Ah * Ab)) + (wrap64 (Ai * Ac))))
theorem spec_l02Apply.calls (Af : Int) (Ag : Int) (Ah : Int) (Ai : Int) (Ab : Int) (Ac : Int) (r1 : Int) (r2 : Int) (w : World) (h : spec_l02Apply.f Af Ag Ah Ai Ab Ac = some (r1, r2)) :
  Calls Tryz.prog 87 #[.agg #[.int .i64 Af, .int .i64 Ag, .int .i64 Ah, .int .i64 Ai], .agg #[.int .i64 Ab, .int .i64 Ac]] w fun e w' => e = .returned (.agg #[.int .i64 r1, .int .i64 r2]) ∧ Below w.heap.size w w' := by
 have hu42 := Tryz.underlying42
 have hu44 := Tryz.underlying44
 have HB := asd (Below.refl w.heap.size w)
 have H : (some (wrap64 ((wrap64 (Af * Ab)) + (wrap64 (Ag * Ac))), wrap64 ((wrap64 (Ah * Ab)) + (wrap64 (Ai * Ac))))) = some (r1, r2) := h
 clear h
 simp only [Option.some.injEq, Prod.mk.injEq] at H
 obtain ⟨rfl, rfl⟩ := H
 go_enter Tryz.func87, Tryz.ntmps87
 go_wp2_with (first | ((with_reducible refine gd 2 rfl ?_); refine bx #[.int .i64 Af, .int .i64 Ag, .int .i64 Ah, .int .i64 Ai] 42 ?_; intro AJ hg w3 Aa hb; have Ad := ngw0 hg HB; replace HB := bS0 HB hb; clear hb hg) | ((with_reducible refine gd 3 rfl ?_); refine bx #[.int .i64 Ab, .int .i64 Ac] 44 ?_; intro AK hg w4 Ae hb; have Ap := ngw1 hg HB Ad; replace HB := bS1 HB Ad hb; have Aj := nlt hg Aa; have Ak := nsy (nlt hg Aa); replace Aa := bB Aa hb; clear hb hg) | ((with_reducible refine gd 4 rfl ?_); refine bx #[.int .i64 0, .int .i64 0] 44 ?_; intro Ar hg w5 Aq hb; have As := ngw2 hg HB Ad Ap; replace HB := bS2 HB Ad Ap hb; have Al := nlt hg Aa; have Am := nsy (nlt hg Aa); replace Aa := bB Aa hb; have An := nlt hg Ae; have Ao := nsy (nlt hg Ae); replace Ae := bB Ae hb; clear hb hg; have AL := Aj.out; have AM := Ak.out; have AN := Al.out; have AO := Am.out; obtain ⟨AB, AC, AD, AE, AF, AG, AH, AI⟩ := bz4 Aa; have AP := An.out; have AQ := Ao.out; obtain ⟨At, Au, Av, Aw⟩ := bz2 Ae; obtain ⟨Ax, Ay, Az, AA⟩ := bz2 Aq))
 refine bodyPost_ret (results_cell_row rfl _ _ Ar 44 #[.int .i64 (wrap64 ((wrap64 (Af * Ab)) + (wrap64 (Ag * Ac)))), .int .i64 (wrap64 ((wrap64 (Ah * Ab)) + (wrap64 (Ai * Ac))))] (0, 0) _ rfl (bq0 Aq) Tryz.underlying44 rfl (by kernel_rfl)) rfl ?_
 exact er (bbw3 HB Ad Ap As)
def spec_l03Basis.f (Aa : Int) (Ab : Int) (Ac : Int) : Option ((List (S44))) := some (([(⟨Aa, 0⟩ : S44), (⟨Ab, Ac⟩ : S44)] : List (S44)))
theorem spec_l03Basis.calls (Aa : Int) (Ab : Int) (Ac : Int) (r : List (S44)) (w : World) (h : spec_l03Basis.f Aa Ab Ac = some r) :
  Calls Tryz.prog 103 #[.agg #[.int .i64 Aa, .int .i64 Ab, .int .i64 Ac]] w fun e w' => ∃ v0_ : Value, e = .returned (v0_) ∧ Kd.R k44 44 w' w.heap.size (fun _ => True) v0_ r ∧ Below w.heap.size w w' := by
 have hu30 := Tryz.underlying30
 have hu44 := Tryz.underlying44
 have HB := asd (Below.refl w.heap.size w)
 have H : (some (([(⟨Aa, 0⟩ : S44), (⟨Ab, Ac⟩ : S44)] : List (S44)))) = some r := h
 clear h
 obtain ⟨Aj, Ad⟩ : ∃ y_ : List (S44), y_ = (([(⟨Aa, 0⟩ : S44), (⟨Ab, Ac⟩ : S44)] : List (S44))) := ⟨_, rfl⟩
 replace H : (some Aj) = some r := by first | (rw [Ad]; with_reducible exact H) | (have H2_ := (Option.bind_some _ _).symm.trans H; rw [Ad]; with_reducible exact H2_) | (have H2_ := (Option.bind_some _ _).symm.trans H; with_reducible exact H2_) | with_reducible exact H | (rw [Ad]; exact H) | exact H
 have Ag := Aside0.mk Ad
 clear Ad
 obtain rfl := Option.some.inj H
 go_enter Tryz.func103, Tryz.ntmps103
 go_wp2_with (first | ((with_reducible refine gd 1 rfl ?_); refine bx #[.int .i64 Aa, .int .i64 Ab, .int .i64 Ac] 30 ?_; intro Aq hg w2 Ae hb; have Af := ngw0 hg HB; replace HB := bS0 HB hb; clear hb hg; obtain ⟨Ak, Al, Am, An, Ao, Ap⟩ := bz3 Ae) | ((with_reducible refine gd 11 rfl ?_); refine Kd.R_lit k44 _ 44 ?hg (N := 11) ?hd (xs := ([(⟨Aa, 0⟩ : S44), (⟨Ab, Ac⟩ : S44)] : List (S44))) (inner := [.int .i64 Aa, .int .i64 0, .int .i64 Ab, .int .i64 Ac]) (ok := fun _ => True) (okp := fun _ => True) ?hr ?hp (fun _ hk => hk) trivial (Below.refl _ _) (Nat.le_refl _) (by simp) ?_; (case hd => rfl); (case hg => rfl); (case hr => first | (go_simp; done) | (go_simp; rfl)); (case hp => exact (Reps.c2 (show Kd.M k44 _ _ _ (⟨Aa, 0⟩ : S44) [.int .i64 Aa, .int .i64 0] from (k44_mkM _ _ _ (⟨Aa, 0⟩ : S44) )) (Reps.c2 (show Kd.M k44 _ _ _ (⟨Ab, Ac⟩ : S44) [.int .i64 Ab, .int .i64 Ac] from (k44_mkM _ _ _ (⟨Ab, Ac⟩ : S44) )) (Reps.none _ _)))); intro v142 w4 Ah hb hg_ hnew_; clear hg_ hnew_; (first | rw [← Ag.out] at Ah | (simp only [Int.reduceToNat] at Ah; rw [← Ag.out] at Ah)); have Ai := asd (Kd.R_lower Ah (bsz1 HB Af)); replace Ae := bB Ae hb; replace HB := bS1 HB Af hb; clear hb Ah))
 go_ret
 exact ⟨_, by first | rfl | (simp [errW_none, errW_some] <;> rfl) | (simp [*, errW_none, errW_some] <;> rfl), by (with_reducible repeat (first | apply Kd.R_alloc | apply Kd.R_drewN | apply Kd.R_drew)); exact Ai.out, bbw1 HB Af⟩
def spec_l01Scale.f (Ab : Int) (Ac : Int) (a1 : Int) : Option (Int × Int) := some (wrap64 (a1 * Ab), wrap64 (a1 * Ac))
theorem spec_l01Scale.calls (Ab : Int) (Ac : Int) (a1 : Int) (r1 : Int) (r2 : Int) (w : World) (h : spec_l01Scale.f Ab Ac a1 = some (r1, r2)) :
  Calls Tryz.prog 55 #[.agg #[.int .i64 Ab, .int .i64 Ac], .int .i64 a1] w fun e w' => e = .returned (.agg #[.int .i64 r1, .int .i64 r2]) ∧ Below w.heap.size w w' := by
 have hu44 := Tryz.underlying44
 have HB := asd (Below.refl w.heap.size w)
 have H : (some (wrap64 (a1 * Ab), wrap64 (a1 * Ac))) = some (r1, r2) := h
 clear h
 simp only [Option.some.injEq, Prod.mk.injEq] at H
 obtain ⟨rfl, rfl⟩ := H
 go_enter Tryz.func55, Tryz.ntmps55
 go_wp2_with (first | ((with_reducible refine gd 2 rfl ?_); refine bx #[.int .i64 Ab, .int .i64 Ac] 44 ?_; intro Ar hg w3 Aa hb; have Af := ngw0 hg HB; replace HB := bS0 HB hb; clear hb hg) | ((with_reducible refine gd 4 rfl ?_); refine bx #[.int .i64 0, .int .i64 0] 44 ?_; intro Ah hg w4 Ag hb; have Ai := ngw1 hg HB Af; replace HB := bS1 HB Af hb; have Ad := nlt hg Aa; have Ae := nsy (nlt hg Aa); replace Aa := bB Aa hb; clear hb hg; have As := Ad.out; have At := Ae.out; obtain ⟨Aj, Ak, Al, Am⟩ := bz2 Aa; obtain ⟨An, Ao, Ap, Aq⟩ := bz2 Ag))
 refine bodyPost_ret (results_cell_row rfl _ _ Ah 44 #[.int .i64 (wrap64 (a1 * Ab)), .int .i64 (wrap64 (a1 * Ac))] (0, 0) _ rfl (bq0 Ag) Tryz.underlying44 rfl (by kernel_rfl)) rfl ?_
 exact er (bbw2 HB Af Ai)
end Go.Proofs.YtfmjboloeabjmaaGreat.PA
