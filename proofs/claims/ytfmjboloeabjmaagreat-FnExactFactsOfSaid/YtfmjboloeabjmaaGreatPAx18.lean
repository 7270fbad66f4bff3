import Derived.Test.YtfmjboloeabjmaaGreatPAx0
import Derived.Test.YtfmjboloeabjmaaGreatPAx3
import Derived.Test.YtfmjboloeabjmaaGreatPAx13
import Derived.Test.YtfmjboloeabjmaaGreatPAx14
import Derived.Test.YtfmjboloeabjmaaGreatPAx17
namespace Go.Proofs.YtfmjboloeabjmaaGreat.PA
open Go.RowKit Go.Proofs.YtfmjboloeabjmaaGreatW.PrintWords Go.Proofs.YtfmjboloeabjmaaGreatW.PrintLast Go.Proofs.YtfmjboloeabjmaaGreatW.PrintMore
attribute [local go_sem] max2_int min2_int max_two min_two max_three min_three max_four min_four   -- for this text's walks alone
set_option linter.unusedVariables false
set_option maxHeartbeats 8000000
set_option maxRecDepth 100000
set_option linter.unusedSimpArgs false
def impl_Mat_isSmall.f (Aa : Int) (Ab : Int) (Ac : Int) (Ad : Int) : Option (Bool) := (impl_isCoordinate.f Aa).bind fun Ae => (if Ae = true then ((impl_isCoordinate.f Ab).bind fun Af => (if Af = true then ((impl_isCoordinate.f Ac).bind fun Ag => (if Ag = true then ((impl_isCoordinate.f Ad).bind fun Ah => (some Ah)) else (some false))) else (some false))) else (some false))
theorem impl_Mat_isSmall.calls (Aa : Int) (Ab : Int) (Ac : Int) (Ad : Int) (r : Bool) (w : World) (h : impl_Mat_isSmall.f Aa Ab Ac Ad = some r) :
  Calls Tryz.prog 115 #[.agg #[.int .i64 Aa, .int .i64 Ab, .int .i64 Ac, .int .i64 Ad]] w fun e w' => e = .returned (.bool r) ∧ Below w.heap.size w w' := by
 have hu42 := Tryz.underlying42
 have HB := asd (Below.refl w.heap.size w)
 have H : ((impl_isCoordinate.f Aa).bind fun Ae => (if Ae = true then ((impl_isCoordinate.f Ab).bind fun Af => (if Af = true then ((impl_isCoordinate.f Ac).bind fun Ag => (if Ag = true then ((impl_isCoordinate.f Ad).bind fun Ah => (some Ah)) else (some false))) else (some false))) else (some false))) = some r := h
 clear h
 obtain ⟨Ae, A2, H⟩ := ob H
 try dsimp only at H
 by_cases c3 : Ae = true
 subst c3
 replace H := ifT H
 obtain ⟨Af, A4, H⟩ := ob H
 try dsimp only at H
 by_cases c5 : Af = true
 subst c5
 replace H := ifT H
 obtain ⟨Ag, A6, H⟩ := ob H
 try dsimp only at H
 by_cases c7 : Ag = true
 subst c7
 replace H := ifT H
 obtain ⟨Ah, A8, H⟩ := ob H
 try dsimp only at H
 obtain rfl := Option.some.inj H
 rotate_left
 replace c7 := Bool.eq_false_iff.mpr c7
 subst c7
 replace H := ifF H
 obtain rfl := Option.some.inj H
 rotate_left
 replace c5 := Bool.eq_false_iff.mpr c5
 subst c5
 replace H := ifF H
 obtain rfl := Option.some.inj H
 rotate_left
 replace c3 := Bool.eq_false_iff.mpr c3
 subst c3
 replace H := ifF H
 obtain rfl := Option.some.inj H
 rotate_left
 all_goals
  go_enter Tryz.func115, Tryz.ntmps115
  go_wp2_with (first | ((with_reducible refine gd 1 rfl ?_); refine bx #[.int .i64 Aa, .int .i64 Ab, .int .i64 Ac, .int .i64 Ad] 42 ?_; intro As hg w9 Ai hb; have Aj := ngw0 hg HB; replace HB := bS0 HB hb; clear hb hg; obtain ⟨Ak, Al, Am, An, Ao, Ap, Aq, Ar⟩ := bz4 Ai) | ((with_reducible refine gate_callee (f := 119) rfl ?_); refine gl 5 Tryz.func119 #[.int .i64 Aa] ?_; (with_reducible refine (impl_isCoordinate.calls _ _ _ A2.out).mono ?_); rintro e w' ⟨rfl, ⟨nd, rfl⟩⟩; refine ⟨_, rfl, ?_⟩) | (go_at_call 119; (with_reducible refine (impl_isCoordinate.calls _ _ _ A4.out).mono ?_); rintro e w' ⟨rfl, ⟨nd, rfl⟩⟩) | (go_at_call 119; (with_reducible refine (impl_isCoordinate.calls _ _ _ A6.out).mono ?_); rintro e w' ⟨rfl, ⟨nd, rfl⟩⟩) | (go_at_call 119; (with_reducible refine (impl_isCoordinate.calls _ _ _ A8.out).mono ?_); rintro e w' ⟨rfl, ⟨nd, rfl⟩⟩))
  go_ret
  exact er (bbw1 HB Aj)
def impl_IsMat.f (Ac : Int) (Ad : Int) (Ae : Int) (Af : Int) : Option (Bool) := (impl_Mat_isSmall.f Ac Ad Ae Af).bind fun Ah => (if Ah = true then ((impl_Mat_det.f Ac Ad Ae Af).bind fun Ag => (if Ag = 1 then (some true) else ((impl_Mat_det.f Ac Ad Ae Af).bind fun Ai => (some (Ai == (-1)))))) else (some false))
theorem impl_IsMat.calls (Ac : Int) (Ad : Int) (Ae : Int) (Af : Int) (r : Bool) (w : World) (h : impl_IsMat.f Ac Ad Ae Af = some r) :
  Calls Tryz.prog 96 #[.agg #[.int .i64 Ac, .int .i64 Ad, .int .i64 Ae, .int .i64 Af]] w fun e w' => e = .returned (.bool r) ∧ Below w.heap.size w w' := by
 have hu42 := Tryz.underlying42
 have HB := asd (Below.refl w.heap.size w)
 have H : ((impl_Mat_isSmall.f Ac Ad Ae Af).bind fun Ah => (if Ah = true then ((impl_Mat_det.f Ac Ad Ae Af).bind fun Ag => (if Ag = 1 then (some true) else ((impl_Mat_det.f Ac Ad Ae Af).bind fun Ai => (some (Ai == (-1)))))) else (some false))) = some r := h
 clear h
 obtain ⟨Ah, A2, H⟩ := ob H
 try dsimp only at H
 by_cases c3 : Ah = true
 ·subst c3
  replace H := ifT H
  obtain ⟨Ag, A4, H⟩ := ob H
  try dsimp only at H
  by_cases c5 : Ag = 1
  ·rw [if_pos c5] at H
   have AQ : (Ag == 1) = true := beq_iff_eq.mpr c5
   have AR : (Ag != 1) = false := bne_eq_false_iff_eq.mpr c5
   clear c5
   obtain rfl := Option.some.inj H
   go_enter Tryz.func96, Tryz.ntmps96
   go_wp2_with (first | ((with_reducible refine gd 1 rfl ?_); refine bx #[.int .i64 Ac, .int .i64 Ad, .int .i64 Ae, .int .i64 Af] 42 ?_; intro Aj hg w6 Aa hb; have Ab := ngw0 hg HB; replace HB := bS0 HB hb; clear hb hg; obtain ⟨AS, AT, AU, AV, AW, AX, AY, AZ⟩ := bz4 Aa) | ((with_reducible refine gate_callee (f := 115) rfl ?_); refine gl 4 Tryz.func115 #[.agg #[.int .i64 Ac, .int .i64 Ad, .int .i64 Ae, .int .i64 Af]] ?_; (with_reducible refine (impl_Mat_isSmall.calls _ _ _ _ _ _ A2.out).mono ?_); rintro e w8 ⟨rfl, hb⟩; refine ⟨_, rfl, ?_⟩; replace Aa := bB Aa hb; replace HB := bS1 HB Ab hb; (try clear hb); obtain ⟨A0, A1, A3, A5, A6, A7, A8, A9⟩ := bz4 Aa) | (go_at_call 33; (with_reducible refine (impl_Mat_det.calls _ _ _ _ _ _ A4.out).mono ?_); rintro e Bb ⟨rfl, hb⟩; replace Aa := bB Aa hb; replace HB := bS1 HB Ab hb; (try clear hb)))
   go_ret
   exact er (bbw1 HB Ab)
  ·rw [if_neg c5] at H
   have AQ : (Ag == 1) = false := beq_eq_false_iff_ne.mpr c5
   have AR : (Ag != 1) = true := bne_iff_ne.mpr c5
   obtain ⟨Ai, Ba, H⟩ := ob H
   try dsimp only at H
   have e_ : Ag = Ai := Option.some.inj (A4.out.symm.trans Ba.out)
   subst e_
   obtain rfl := Option.some.inj H
   go_enter Tryz.func96, Tryz.ntmps96
   go_wp2_with (first | ((with_reducible refine gd 1 rfl ?_); refine bx #[.int .i64 Ac, .int .i64 Ad, .int .i64 Ae, .int .i64 Af] 42 ?_; intro Aj hg w12 Aa hb; have Ab := ngw0 hg HB; replace HB := bS0 HB hb; clear hb hg; obtain ⟨Ak, Al, Am, An, Ao, Ap, Aq, Ar⟩ := bz4 Aa) | ((with_reducible refine gate_callee (f := 115) rfl ?_); refine gl 4 Tryz.func115 #[.agg #[.int .i64 Ac, .int .i64 Ad, .int .i64 Ae, .int .i64 Af]] ?_; (with_reducible refine (impl_Mat_isSmall.calls _ _ _ _ _ _ A2.out).mono ?_); rintro e Bc ⟨rfl, hb⟩; refine ⟨_, rfl, ?_⟩; replace Aa := bB Aa hb; replace HB := bS1 HB Ab hb; (try clear hb); obtain ⟨As, At, Au, Av, Aw, Ax, Ay, Az⟩ := bz4 Aa) | (go_at_call 33; (with_reducible refine (impl_Mat_det.calls _ _ _ _ _ _ A4.out).mono ?_); rintro e Bd ⟨rfl, hb⟩; replace Aa := bB Aa hb; replace HB := bS1 HB Ab hb; (try clear hb); obtain ⟨AA, AB, AC, AD, AE, AF, AG, AH⟩ := bz4 Aa) | (go_at_call 33; (with_reducible refine (impl_Mat_det.calls _ _ _ _ _ _ Ba.out).mono ?_); rintro e Be ⟨rfl, hb⟩; replace Aa := bB Aa hb; replace HB := bS1 HB Ab hb; (try clear hb)))
   go_ret
   exact er (bbw1 HB Ab)
 ·replace c3 := Bool.eq_false_iff.mpr c3
  subst c3
  replace H := ifF H
  obtain rfl := Option.some.inj H
  go_enter Tryz.func96, Tryz.ntmps96
  go_wp2_with (first | ((with_reducible refine gd 1 rfl ?_); refine bx #[.int .i64 Ac, .int .i64 Ad, .int .i64 Ae, .int .i64 Af] 42 ?_; intro Aj hg Bf Aa hb; have Ab := ngw0 hg HB; replace HB := bS0 HB hb; clear hb hg; obtain ⟨AI, AJ, AK, AL, AM, AN, AO, AP⟩ := bz4 Aa) | ((with_reducible refine gate_callee (f := 115) rfl ?_); refine gl 4 Tryz.func115 #[.agg #[.int .i64 Ac, .int .i64 Ad, .int .i64 Ae, .int .i64 Af]] ?_; (with_reducible refine (impl_Mat_isSmall.calls _ _ _ _ _ _ A2.out).mono ?_); rintro e Bg ⟨rfl, hb⟩; refine ⟨_, rfl, ?_⟩; replace Aa := bB Aa hb; replace HB := bS1 HB Ab hb; (try clear hb)))
  go_ret
  exact er (bbw1 HB Ab)
def impl_IsVec.f (Aa : Int) (Ab : Int) : Option (Bool) := (impl_isCoordinate.f Aa).bind fun Ac => (if Ac = true then ((impl_isCoordinate.f Ab).bind fun Ad => (some Ad)) else (some false))
theorem impl_IsVec.calls (Aa : Int) (Ab : Int) (r : Bool) (w : World) (h : impl_IsVec.f Aa Ab = some r) :
  Calls Tryz.prog 117 #[.agg #[.int .i64 Aa, .int .i64 Ab]] w fun e w' => e = .returned (.bool r) ∧ Below w.heap.size w w' := by
 have hu44 := Tryz.underlying44
 have HB := asd (Below.refl w.heap.size w)
 have H : ((impl_isCoordinate.f Aa).bind fun Ac => (if Ac = true then ((impl_isCoordinate.f Ab).bind fun Ad => (some Ad)) else (some false))) = some r := h
 clear h
 obtain ⟨Ac, A2, H⟩ := ob H
 try dsimp only at H
 by_cases c3 : Ac = true
 subst c3
 replace H := ifT H
 obtain ⟨Ad, A4, H⟩ := ob H
 try dsimp only at H
 obtain rfl := Option.some.inj H
 rotate_left
 replace c3 := Bool.eq_false_iff.mpr c3
 subst c3
 replace H := ifF H
 obtain rfl := Option.some.inj H
 rotate_left
 all_goals
  go_enter Tryz.func117, Tryz.ntmps117
  go_wp2_with (first | ((with_reducible refine gd 1 rfl ?_); refine bx #[.int .i64 Aa, .int .i64 Ab] 44 ?_; intro Ak hg w5 Ae hb; have Af := ngw0 hg HB; replace HB := bS0 HB hb; clear hb hg; obtain ⟨Ag, Ah, Ai, Aj⟩ := bz2 Ae) | ((with_reducible refine gate_callee (f := 119) rfl ?_); refine gl 5 Tryz.func119 #[.int .i64 Aa] ?_; (with_reducible refine (impl_isCoordinate.calls _ _ _ A2.out).mono ?_); rintro e w' ⟨rfl, ⟨nd, rfl⟩⟩; refine ⟨_, rfl, ?_⟩) | (go_at_call 119; (with_reducible refine (impl_isCoordinate.calls _ _ _ A4.out).mono ?_); rintro e w' ⟨rfl, ⟨nd, rfl⟩⟩))
  go_ret
  exact er (bbw1 HB Af)
def impl_limited.f (Af : Int) (Ag : Int) : Option (Int × Int × Int) := (impl_IsVec.f Af Ag).bind fun Ai => (if Ai = true then (some (Af, Ag, 0)) else (some (0, 0, 3)))
theorem impl_limited.calls (Af : Int) (Ag : Int) (r1 : Int) (r2 : Int) (r3 : Int) (w : World) (h : impl_limited.f Af Ag = some (r1, r2, r3)) :
  Calls Tryz.prog 98 #[.agg #[.int .i64 Af, .int .i64 Ag]] w fun e w' => e = .returned (.tuple #[.agg #[.int .i64 r1, .int .i64 r2], .int .i64 r3]) ∧ Below w.heap.size w w' := by
 have hu44 := Tryz.underlying44
 have HB := asd (Below.refl w.heap.size w)
 have H : ((impl_IsVec.f Af Ag).bind fun Ai => (if Ai = true then (some (Af, Ag, 0)) else (some (0, 0, 3)))) = some (r1, r2, r3) := h
 clear h
 obtain ⟨Ai, A2, H⟩ := ob H
 try dsimp only at H
 by_cases c3 : Ai = true
 ·subst c3
  replace H := ifT H
  simp only [Option.some.injEq, Prod.mk.injEq] at H
  obtain ⟨rfl, rfl, rfl⟩ := H
  go_enter Tryz.func98, Tryz.ntmps98
  go_wp2_with (first | ((with_reducible refine gd 1 rfl ?_); refine bx #[.int .i64 Af, .int .i64 Ag] 44 ?_; intro Ak hg w4 Aa hb; have Ab := ngw0 hg HB; replace HB := bS0 HB hb; clear hb hg) | ((with_reducible refine gd 2 rfl ?_); refine bx #[.int .i64 0, .int .i64 0] 44 ?_; intro Aj hg w5 Ac hb; have Ah := ngw1 hg HB Ab; replace HB := bS1 HB Ab hb; have Ad := nlt hg Aa; have Ae := nsy (nlt hg Aa); replace Aa := bB Aa hb; clear hb hg; have AH := Ad.out; have AI := Ae.out; obtain ⟨Ax, Ay, Az, AA⟩ := bz2 Aa) | ((with_reducible refine gate_callee (f := 117) rfl ?_); refine gl 5 Tryz.func117 #[.agg #[.int .i64 Af, .int .i64 Ag]] ?_; (with_reducible refine (impl_IsVec.calls _ _ _ _ A2.out).mono ?_); rintro e w8 ⟨rfl, hb⟩; refine ⟨_, rfl, ?_⟩; replace Aa := bB Aa hb; replace Ac := bB Ac hb; replace HB := bS2 HB Ab Ah hb; (try clear hb); obtain ⟨AB, AC, AD, AE⟩ := bz2 Aa; obtain ⟨Al, Am, An, Ao⟩ := bz2 Ac))
  refine bodyPost_ret (results_ct rfl _ _ Aj 44 #[.int .i64 Af, .int .i64 Ag] (0, 0) _ rfl (bq0 Ac) Tryz.underlying44 rfl (by kernel_rfl)) rfl ?_
  exact er (bbw2 HB Ab Ah)
 ·replace c3 := Bool.eq_false_iff.mpr c3
  subst c3
  replace H := ifF H
  simp only [Option.some.injEq, Prod.mk.injEq] at H
  obtain ⟨rfl, rfl, rfl⟩ := H
  go_enter Tryz.func98, Tryz.ntmps98
  go_wp2_with (first | ((with_reducible refine gd 1 rfl ?_); refine bx #[.int .i64 Af, .int .i64 Ag] 44 ?_; intro Ak hg AJ Aa hb; have Ab := ngw0 hg HB; replace HB := bS0 HB hb; clear hb hg) | ((with_reducible refine gd 2 rfl ?_); refine bx #[.int .i64 0, .int .i64 0] 44 ?_; intro Aj hg w12 Ac hb; have Ah := ngw1 hg HB Ab; replace HB := bS1 HB Ab hb; have Ad := nlt hg Aa; have Ae := nsy (nlt hg Aa); replace Aa := bB Aa hb; clear hb hg; have AF := Ad.out; have AG := Ae.out; obtain ⟨Ap, Aq, Ar, As⟩ := bz2 Aa) | ((with_reducible refine gate_callee (f := 117) rfl ?_); refine gl 5 Tryz.func117 #[.agg #[.int .i64 Af, .int .i64 Ag]] ?_; (with_reducible refine (impl_IsVec.calls _ _ _ _ A2.out).mono ?_); rintro e AK ⟨rfl, hb⟩; refine ⟨_, rfl, ?_⟩; replace Aa := bB Aa hb; replace Ac := bB Ac hb; replace HB := bS2 HB Ab Ah hb; (try clear hb); obtain ⟨At, Au, Av, Aw⟩ := bz2 Ac))
  refine bodyPost_ret (results_ct rfl _ _ Aj 44 #[.int .i64 0, .int .i64 0] (0, 0) _ rfl (bq0 Ac) Tryz.underlying44 rfl (by kernel_rfl)) rfl ?_
  exact er (bbw2 HB Ab Ah)
attribute [local go_sem high] eqA44
def impl_AxisOf.j0 : Nat → Int → Int → Option (Int × Int × Int)
 | 0, _, _ => none
 | k + 1, Av, Aw => (impl_gcd.f k Av Aw).bind fun Ap => (if Ap = 0 then (none) else ((impl_compareVecs.f k (wrap64 (Int.tdiv Av Ap)) (wrap64 (Int.tdiv Aw Ap)) 0 0).bind fun Bn => (if Bn < 0 then ((impl_Vec_times.f (wrap64 (Int.tdiv Av Ap)) (wrap64 (Int.tdiv Aw Ap)) (-1)).bind fun Bk => ((impl_limited.f Bk.1 Bk.2).bind fun AA => (some (AA.1, AA.2.1, AA.2.2)))) else ((impl_limited.f (wrap64 (Int.tdiv Av Ap)) (wrap64 (Int.tdiv Aw Ap))).bind fun AB => (some (AB.1, AB.2.1, AB.2.2))))))
def impl_AxisOf.f (k : Nat) (Aj : Int) (Ak : Int) (Aq : Int) (Ar : Int) : Option (Int × Int × Int) := (impl_IsMat.f Aj Ak Aq Ar).bind fun AC => (if AC = true then ((impl_Mat_isReflection.f k Aj Ak Aq Ar).bind fun AD => (if AD = true then (if (Ak == 0 && ((wrap64 (1 - Aj)) == 0)) = true then (impl_AxisOf.j0 k (wrap64 (1 - Ar)) Aq) else (impl_AxisOf.j0 k Ak (wrap64 (1 - Aj)))) else (some (0, 0, 5)))) else (some (0, 0, 1)))
def impl_AxisOf.T9 : Bool × List (List Nat × List Nat) := (true, [([], []), ([0], [0]), ([], []), ([1, 2], [1, 2]), ([], []), ([4], [4]), ([], []), ([5, 6], [5, 6]), ([3, 7], [3, 7]), ([8, 0, 1, 2, 3, 4, 5, 6, 7, 8], [8])])
def impl_AxisOf.B9 : List Nat := [0, 1, 0, 7, 0, 16, 0, 112, 255, 511]
theorem impl_AxisOf.tab9 : rtab .any (opsOf Tryz.f66 9) = impl_AxisOf.T9 := by kernel_rfl
theorem impl_AxisOf.bits9 : waitsOk impl_AxisOf.T9.2 impl_AxisOf.B9 = true := by kernel_rfl
theorem impl_AxisOf.calls (k : Nat) (Aj : Int) (Ak : Int) (Aq : Int) (Ar : Int) (r1 : Int) (r2 : Int) (r3 : Int) (w : World) (h : impl_AxisOf.f k Aj Ak Aq Ar = some (r1, r2, r3)) :
  Calls Tryz.prog 66 #[.agg #[.int .i64 Aj, .int .i64 Ak, .int .i64 Aq, .int .i64 Ar]] w fun e w' => e = .returned (.tuple #[.agg #[.int .i64 r1, .int .i64 r2], .int .i64 r3]) ∧ Below w.heap.size w w' := by
 have hu42 := Tryz.underlying42
 have hu44 := Tryz.underlying44
 have HB := asd (Below.refl w.heap.size w)
 have H : ((impl_IsMat.f Aj Ak Aq Ar).bind fun AC => (if AC = true then ((impl_Mat_isReflection.f k Aj Ak Aq Ar).bind fun AD => (if AD = true then (if (Ak == 0 && ((wrap64 (1 - Aj)) == 0)) = true then (impl_AxisOf.j0 k (wrap64 (1 - Ar)) Aq) else (impl_AxisOf.j0 k Ak (wrap64 (1 - Aj)))) else (some (0, 0, 5)))) else (some (0, 0, 1)))) = some (r1, r2, r3) := h
 clear h
 obtain ⟨AC, A2, H⟩ := ob H
 try dsimp only at H
 by_cases c3 : AC = true
 ·subst c3
  replace H := ifT H
  obtain ⟨AD, A4, H⟩ := ob H
  try dsimp only at H
  by_cases c5 : AD = true
  ·subst c5
   replace H := ifT H
   have CW := Aside0.mk H
   clear H
   go_enter Tryz.func66, Tryz.ntmps66
   go_upto_if 22 with (first | ((with_reducible refine gd 1 rfl ?_); refine bx #[.int .i64 Aj, .int .i64 Ak, .int .i64 Aq, .int .i64 Ar] 42 ?_; intro Ax hg w7 Aa hb; have Ah := ngw0 hg HB; replace HB := bS0 HB hb; clear hb hg) | ((with_reducible refine gd 2 rfl ?_); refine bx #[.int .i64 0, .int .i64 0] 44 ?_; intro Au hg w8 Ab hb; have Ai := ngw1 hg HB Ah; replace HB := bS1 HB Ah hb; have Al := nlt hg Aa; have Am := nsy (nlt hg Aa); replace Aa := bB Aa hb; clear hb hg; have Dy := Al.out; have Dz := Am.out; obtain ⟨AE, AF, AG, AH, AI, AJ, AK, AL⟩ := bz4 Aa) | ((with_reducible refine gate_callee (f := 96) rfl ?_); refine gl 7 Tryz.func96 #[.agg #[.int .i64 Aj, .int .i64 Ak, .int .i64 Aq, .int .i64 Ar]] ?_; (with_reducible refine (impl_IsMat.calls _ _ _ _ _ _ A2.out).mono ?_); rintro e DH ⟨rfl, hb⟩; refine ⟨_, rfl, ?_⟩; replace Aa := bB Aa hb; replace Ab := bB Ab hb; replace HB := bS2 HB Ah Ai hb; (try clear hb); obtain ⟨AM, AN, AO, AP, AQ, AR, AS, AT⟩ := bz4 Aa) | ((with_reducible refine gate_callee (f := 70) rfl ?_); refine gl 11 Tryz.func70 #[.agg #[.int .i64 Aj, .int .i64 Ak, .int .i64 Aq, .int .i64 Ar]] ?_; (with_reducible refine (impl_Mat_isReflection.calls _ _ _ _ _ _ _ A4.out).mono ?_); rintro e DI ⟨rfl, hb⟩; refine ⟨_, rfl, ?_⟩; replace Aa := bB Aa hb; replace Ab := bB Ab hb; replace HB := bS2 HB Ah Ai hb; (try clear hb); obtain ⟨AU, AV, AW, AX, AY, AZ, A0, A1⟩ := bz4 Aa) | ((with_reducible refine gd 4 rfl ?_); refine bx #[.int .i64 0, .int .i64 0] 44 ?_; intro As hg DJ Ac hb; have At := ngw2 hg HB Ah Ai; replace HB := bS2 HB Ah Ai hb; have Af := nlt hg Aa; have An := nsy (nlt hg Aa); replace Aa := bB Aa hb; have Ag := nlt hg Ab; have Ao := nsy (nlt hg Ab); replace Ab := bB Ab hb; clear hb hg; have C1 := An.out; have C2 := Af.out; have C3 := Ao.out; have C4 := Ag.out; obtain ⟨A3, A5, A6, A7⟩ := bz2 Ac))
   (try simp only [Act.put, sA, sB, sC])
   go_cut [] (fun wc => ∃ (kq : Nat) (Ad : Int) (Ae : Int), Aside0 (impl_AxisOf.j0 kq Ad Ae = some (r1, r2, r3)) ∧ Aside0 (kq ≤ k) ∧ Aside0 (wc.heap[Ax]? = some (.cells #[.int .i64 Aj, .int .i64 Ak, .int .i64 Aq, .int .i64 Ar] 42 (0, 0))) ∧ Aside0 (wc.heap[Au]? = some (.cells #[.int .i64 0, .int .i64 0] 44 (0, 0))) ∧ Aside0 (wc.heap[As]? = some (.cells #[.int .i64 Ad, .int .i64 Ae] 44 (0, 0))) ∧ Aside0 (Below w.heap.size w wc))
   case first =>
    have H := CW.out
    clear CW
    by_cases Az : (Ak == 0 && ((wrap64 (1 - Aj)) == 0)) = true
    ·rw [if_pos Az] at H
     have Ay := Az
     (try (have Bl : decide (Ak = 0 && ((wrap64 (1 - Aj)) == 0)) = true := by simpa using Az))
     (try (have Bm : (Ak == 0 && ((wrap64 (1 - Aj)) == 0)) = true := by simpa using Az))
     clear Az
     (first | rw [Ay] | (simp only [i64_w, i32_w]; rw [Ay]) | skip)
     have H' := Aside0.mk H
     clear H
     have C5 := Al.out
     have C6 := Am.out
     have C7 := Af.out
     have C8 := An.out
     obtain ⟨A8, A9, Ba, Bb, Bc, Bd, Be, Bf⟩ := bz4 Aa
     have C9 := Ao.out
     have Da := Ag.out
     obtain ⟨Bg, Bh, Bi, Bj⟩ := bz2 Ac
     go_wp2
     go_meet
     case rel => exact ⟨_, (wrap64 (1 - Ar)), (Aq), H', ⟨by first | omega | exact Nat.le_refl _⟩, ⟨bq1 Aa Af⟩, ⟨bq1 Ab Ag⟩, ⟨bq0 Ac⟩, ⟨bbw3 HB Ah Ai At⟩⟩
    ·rw [if_neg Az] at H
     have Ay : (Ak == 0 && ((wrap64 (1 - Aj)) == 0)) = false := by simpa using Az
     (try (have Bl : decide (Ak = 0 && ((wrap64 (1 - Aj)) == 0)) = false := by simpa using Az))
     (try (have Bm : (Ak == 0 && ((wrap64 (1 - Aj)) == 0)) = false := by simpa using Az))
     (try (have Db : ¬ (Ak = 0 && ((wrap64 (1 - Aj)) == 0)) := by simpa using Az))
     clear Az
     (first | rw [Ay] | (simp only [i64_w, i32_w]; rw [Ay]) | skip)
     have H' := Aside0.mk H
     clear H
     go_wp2
     go_meet
     case rel => exact ⟨_, (Ak), (wrap64 (1 - Aj)), H', ⟨by first | omega | exact Nat.le_refl _⟩, ⟨bq1 Aa Af⟩, ⟨bq1 Ab Ag⟩, ⟨bq0 Ac⟩, ⟨bbw3 HB Ah Ai At⟩⟩
   case rest =>
    clear CW
    try clear c3
    try clear c5
    try clear Az
    try clear Ay
    try clear Bl
    try clear Bm
    try clear AE
    try clear AF
    try clear AG
    try clear AH
    try clear AM
    try clear AN
    try clear AO
    try clear AP
    try clear AU
    try clear AV
    try clear AW
    try clear AX
    try clear A3
    try clear A5
    try clear A8
    try clear A9
    try clear Ba
    try clear Bb
    try clear Bg
    try clear Bh
    try clear AI
    try clear AJ
    try clear AK
    try clear AL
    try clear AQ
    try clear AR
    try clear AS
    try clear AT
    try clear AY
    try clear AZ
    try clear A0
    try clear A1
    try clear A6
    try clear A7
    try clear Bc
    try clear Bd
    try clear Be
    try clear Bf
    try clear Bi
    try clear Bj
    obtain ⟨kq, Ad, Ae, HA, DK, Aa, Ab, Ac, HB⟩ := hcut
    cases kq with
    | zero => exact absurd HA.out (by simp [impl_AxisOf.j0])
    | succ DL =>
     have H := HA.out
     clear HA
     simp only [impl_AxisOf.j0] at H
     obtain ⟨Ap, Dc, H⟩ := ob H
     try dsimp only at H
     by_cases Bs : Ap = 0
     ·rw [if_pos Bs] at H
      exact absurd H (by simp)
     ·rw [if_neg Bs] at H
      have Dd : (Ap == 0) = false := beq_eq_false_iff_ne.mpr Bs
      have De : (Ap != 0) = true := bne_iff_ne.mpr Bs
      obtain ⟨Bn, Df, H⟩ := ob H
      try dsimp only at H
      by_cases Bo : Bn < 0
      ·rw [if_pos Bo] at H
       have Bp := decide_eq_true Bo
       clear Bo
       obtain ⟨⟨Bq, Br⟩, DA, H⟩ := ob H
       try dsimp only at H
       obtain ⟨⟨CX, CY, DB⟩, DC, H⟩ := ob H
       try dsimp only at H
       simp only [Option.some.injEq, Prod.mk.injEq] at H
       obtain ⟨rfl, rfl, rfl⟩ := H
       have Dg := An.out
       have Dh := Af.out
       have Di := Ao.out
       have Dj := Ag.out
       obtain ⟨Bt, Bu, Bv, Bw⟩ := bz2 Ac
       try go_wp2_with (first | ((with_reducible refine gate_callee (f := 73) rfl ?_); refine gl 33 Tryz.func73 #[.int .i64 Ad, .int .i64 Ae] ?_; (with_reducible refine (impl_gcd.calls _ _ _ _ _ Dc.out).mono ?_); rintro e DD ⟨rfl, hb⟩; refine ⟨_, rfl, ?_⟩; replace Aa := bB Aa hb; replace Ab := bB Ab hb; replace Ac := bB Ac hb; replace HB := bS3 HB Ah Ai At hb; (try clear hb)))
       replace Aa := asd (blk_drew Aa.out)
       replace Ab := asd (blk_drew Ab.out)
       replace Ac := asd (blk_drew Ac.out)
       replace HB := asd (below_drew1 HB.out)
       refine start_ (n := 10) (S := fun w' => w'.cell? ⟨As, 0, none⟩ = some (.int .i64 Ad) ∧ w'.cell? ⟨As, 1, none⟩ = some (.int .i64 Ae)) (ds := [9]) (bT 10 0) (by kernel_rfl) rfl rfl ⟨bcl Ac 0, bcl Ac 1⟩ (fun hHeld => ?_); refine with_tabW impl_AxisOf.tab9 impl_AxisOf.bits9 (fun HT_ HW_ => ?_)
       generalize DD.drew = Dk at Aa Ab Ac HB hHeld ⊢
       refine pu 0 (some 34) (bT 10 1) HT_ ?_
       refine pu 2 (some 36) (bs 10 5) HT_ ?_
       refine pu 4 (some 38) (bs 10 21) HT_ ?_
       refine pu 6 (some 40) (bs 10 85) HT_ ?_
       refine ta 1 (some 35) (bs 10 87) HT_ HW_ hHeld ?_
       refine pu 3 (some 37) (bs 10 95) HT_ ?_
       refine ta 5 (some 39) (bT 10 7) HT_ HW_ hHeld ?_
       refine pu 7 (some 41) (bT 10 8) HT_ ?_
       refine pu 8 (some 42) (bT 10 9) HT_ ?_
       refine last_ (i := 9) (N := none) (bT 10 10) rfl rfl (one_of HT_.out (by kernel_rfl)) (by decide) (fun K hK => ?_)
       have hs36 : Dk.cell? ⟨As, 0, none⟩ = some (.int .i64 Ad) := bcl Ac 0
       have hfs36 := blk_frozen Ac.out 0
       have Bx := Af.out
       have By := Ag.out
       have Bz := An.out
       have BA := Ao.out
       have hs37 : Dk.cell? ⟨As, 1, none⟩ = some (.int .i64 Ae) := bcl Ac 1
       have hfs37 := blk_frozen Ac.out 1
       have BB := Af.out
       have BC := Ag.out
       have BD := An.out
       have BE := Ao.out
       refine skip_ (w1 := ?_) (by rfl) rfl ?_ ?_
       rotate_left
       ·go_simp
        rfl
       refine hK.out _ _ ?_
       clear hK K
       refine done_ (done_of HT_.out (by kernel_rfl)) ?_
       obtain ⟨BF, BG, BH, BI⟩ := bz2 Ac
       try go_wp2_with (first | ((with_reducible refine gate_callee (f := 97) rfl ?_); refine gl 45 Tryz.func97 #[.agg #[.int .i64 (wrap64 (Int.tdiv Ad Ap)), .int .i64 (wrap64 (Int.tdiv Ae Ap))], .agg #[.int .i64 0, .int .i64 0]] ?_; (with_reducible refine (impl_compareVecs.calls _ _ _ _ _ _ _ Df.out).mono ?_); rintro e DM ⟨rfl, hb⟩; refine ⟨_, rfl, ?_⟩; replace Aa := asd (blk_below (g := Ax) (o := .cells #[.int .i64 Aj, .int .i64 Ak, .int .i64 Aq, .int .i64 Ar] 42 (0, 0)) (bq1 Aa Af) hb); replace Ab := asd (blk_below (g := Au) (o := .cells #[.int .i64 0, .int .i64 0] 44 (0, 0)) (bq1 Ab Ag) hb); replace Ac := asd (blk_below (g := As) (o := .cells #[.int .i64 (wrap64 (Int.tdiv Ad Ap)), .int .i64 (wrap64 (Int.tdiv Ae Ap))] 44 (0, 0)) (bq0 Ac) hb); replace HB := bS3 HB Ah Ai At hb; (try clear hb); obtain ⟨BJ, BK, BL, BM⟩ := bz2 Ac) | ((with_reducible refine gate_callee (f := 38) rfl ?_); refine gl 48 Tryz.func38 #[.agg #[.int .i64 (wrap64 (Int.tdiv Ad Ap)), .int .i64 (wrap64 (Int.tdiv Ae Ap))], .int .i64 (-1)] ?_; (with_reducible refine (impl_Vec_times.calls _ _ _ _ _ _ DA.out).mono ?_); rintro e DN ⟨rfl, hb⟩; refine ⟨_, rfl, ?_⟩; replace Aa := bB Aa hb; replace Ab := bB Ab hb; replace Ac := bB Ac hb; replace HB := bS3 HB Ah Ai At hb; (try clear hb); obtain ⟨BN, BO, BP, BQ⟩ := bz2 Ac) | ((with_reducible refine gate_callee (f := 98) rfl ?_); refine gl 50 Tryz.func98 #[.agg #[.int .i64 Bq, .int .i64 Br]] ?_; (with_reducible refine (impl_limited.calls _ _ _ _ _ _ DC.out).mono ?_); rintro e DO ⟨rfl, hb⟩; refine ⟨_, rfl, ?_⟩; replace Aa := asd (blk_below (g := Ax) (o := .cells #[.int .i64 Aj, .int .i64 Ak, .int .i64 Aq, .int .i64 Ar] 42 (0, 0)) (bq1 Aa Af) hb); replace Ab := asd (blk_below (g := Au) (o := .cells #[.int .i64 0, .int .i64 0] 44 (0, 0)) (bq1 Ab Ag) hb); replace Ac := asd (blk_below (g := As) (o := .cells #[.int .i64 Bq, .int .i64 Br] 44 (0, 0)) (bq0 Ac) hb); replace HB := bS3 HB Ah Ai At hb; (try clear hb); have Dl := Am.out; have Dm := Al.out; obtain ⟨BR, BS, BT, BU⟩ := bz2 Ab))
       refine bodyPost_ret (results_ct rfl _ _ Au 44 #[.int .i64 CX, .int .i64 CY] (0, 0) _ rfl (bq0 Ab) Tryz.underlying44 rfl (by kernel_rfl)) rfl ?_
       exact er (bbw3 HB Ah Ai At)
      ·rw [if_neg Bo] at H
       have Bp := decide_eq_false Bo
       clear Bo
       obtain ⟨⟨CZ, C0, DE⟩, DF, H⟩ := ob H
       try dsimp only at H
       simp only [Option.some.injEq, Prod.mk.injEq] at H
       obtain ⟨rfl, rfl, rfl⟩ := H
       have Dn := An.out
       have Do := Af.out
       have Dp := Ao.out
       have Dq := Ag.out
       obtain ⟨BV, BW, BX, BY⟩ := bz2 Ac
       try go_wp2_with (first | ((with_reducible refine gate_callee (f := 73) rfl ?_); refine gl 33 Tryz.func73 #[.int .i64 Ad, .int .i64 Ae] ?_; (with_reducible refine (impl_gcd.calls _ _ _ _ _ Dc.out).mono ?_); rintro e DG ⟨rfl, hb⟩; refine ⟨_, rfl, ?_⟩; replace Aa := bB Aa hb; replace Ab := bB Ab hb; replace Ac := bB Ac hb; replace HB := bS3 HB Ah Ai At hb; (try clear hb)))
       replace Aa := asd (blk_drew Aa.out)
       replace Ab := asd (blk_drew Ab.out)
       replace Ac := asd (blk_drew Ac.out)
       replace HB := asd (below_drew1 HB.out)
       refine start_ (n := 10) (S := fun w' => w'.cell? ⟨As, 0, none⟩ = some (.int .i64 Ad) ∧ w'.cell? ⟨As, 1, none⟩ = some (.int .i64 Ae)) (ds := [9]) (bT 10 0) (by kernel_rfl) rfl rfl ⟨bcl Ac 0, bcl Ac 1⟩ (fun hHeld => ?_); refine with_tabW impl_AxisOf.tab9 impl_AxisOf.bits9 (fun HT_ HW_ => ?_)
       generalize DG.drew = Dr at Aa Ab Ac HB hHeld ⊢
       refine pu 0 (some 34) (bT 10 1) HT_ ?_
       refine pu 2 (some 36) (bs 10 5) HT_ ?_
       refine pu 4 (some 38) (bs 10 21) HT_ ?_
       refine pu 6 (some 40) (bs 10 85) HT_ ?_
       refine ta 1 (some 35) (bs 10 87) HT_ HW_ hHeld ?_
       refine pu 3 (some 37) (bs 10 95) HT_ ?_
       refine ta 5 (some 39) (bT 10 7) HT_ HW_ hHeld ?_
       refine pu 7 (some 41) (bT 10 8) HT_ ?_
       refine pu 8 (some 42) (bT 10 9) HT_ ?_
       refine last_ (i := 9) (N := none) (bT 10 10) rfl rfl (one_of HT_.out (by kernel_rfl)) (by decide) (fun K hK => ?_)
       have hs52 : Dr.cell? ⟨As, 0, none⟩ = some (.int .i64 Ad) := bcl Ac 0
       have hfs52 := blk_frozen Ac.out 0
       have BZ := Af.out
       have B0 := Ag.out
       have B3 := An.out
       have B8 := Ao.out
       have hs53 : Dr.cell? ⟨As, 1, none⟩ = some (.int .i64 Ae) := bcl Ac 1
       have hfs53 := blk_frozen Ac.out 1
       have Ca := Af.out
       have Cb := Ag.out
       have Cc := An.out
       have Cd := Ao.out
       refine skip_ (w1 := ?_) (by rfl) rfl ?_ ?_
       rotate_left
       ·go_simp
        rfl
       refine hK.out _ _ ?_
       clear hK K
       refine done_ (done_of HT_.out (by kernel_rfl)) ?_
       obtain ⟨Ce, Cf, Cg, Ch⟩ := bz2 Ac
       try go_wp2_with (first | ((with_reducible refine gate_callee (f := 97) rfl ?_); refine gl 45 Tryz.func97 #[.agg #[.int .i64 (wrap64 (Int.tdiv Ad Ap)), .int .i64 (wrap64 (Int.tdiv Ae Ap))], .agg #[.int .i64 0, .int .i64 0]] ?_; (with_reducible refine (impl_compareVecs.calls _ _ _ _ _ _ _ Df.out).mono ?_); rintro e DP ⟨rfl, hb⟩; refine ⟨_, rfl, ?_⟩; replace Aa := asd (blk_below (g := Ax) (o := .cells #[.int .i64 Aj, .int .i64 Ak, .int .i64 Aq, .int .i64 Ar] 42 (0, 0)) (bq1 Aa Af) hb); replace Ab := asd (blk_below (g := Au) (o := .cells #[.int .i64 0, .int .i64 0] 44 (0, 0)) (bq1 Ab Ag) hb); replace Ac := asd (blk_below (g := As) (o := .cells #[.int .i64 (wrap64 (Int.tdiv Ad Ap)), .int .i64 (wrap64 (Int.tdiv Ae Ap))] 44 (0, 0)) (bq0 Ac) hb); replace HB := bS3 HB Ah Ai At hb; (try clear hb); obtain ⟨Ci, Cj, Ck, Cl⟩ := bz2 Ac) | ((with_reducible refine gate_callee (f := 98) rfl ?_); refine gl 50 Tryz.func98 #[.agg #[.int .i64 (wrap64 (Int.tdiv Ad Ap)), .int .i64 (wrap64 (Int.tdiv Ae Ap))]] ?_; (with_reducible refine (impl_limited.calls _ _ _ _ _ _ DF.out).mono ?_); rintro e DQ ⟨rfl, hb⟩; refine ⟨_, rfl, ?_⟩; replace Aa := bB Aa hb; replace Ab := bB Ab hb; replace Ac := bB Ac hb; replace HB := bS3 HB Ah Ai At hb; (try clear hb); have Ds := Am.out; have Dt := Al.out; obtain ⟨Cm, Cn, Co, Cp⟩ := bz2 Ab))
       refine bodyPost_ret (results_ct rfl _ _ Au 44 #[.int .i64 CZ, .int .i64 C0] (0, 0) _ rfl (bq0 Ab) Tryz.underlying44 rfl (by kernel_rfl)) rfl ?_
       exact er (bbw3 HB Ah Ai At)
  ·replace c5 := Bool.eq_false_iff.mpr c5
   subst c5
   replace H := ifF H
   simp only [Option.some.injEq, Prod.mk.injEq] at H
   obtain ⟨rfl, rfl, rfl⟩ := H
   go_enter Tryz.func66, Tryz.ntmps66
   go_wp2_with (first | ((with_reducible refine gd 1 rfl ?_); refine bx #[.int .i64 Aj, .int .i64 Ak, .int .i64 Aq, .int .i64 Ar] 42 ?_; intro Ax hg DR Aa hb; have Ah := ngw0 hg HB; replace HB := bS0 HB hb; clear hb hg) | ((with_reducible refine gd 2 rfl ?_); refine bx #[.int .i64 0, .int .i64 0] 44 ?_; intro Au hg DS Ab hb; have Ai := ngw1 hg HB Ah; replace HB := bS1 HB Ah hb; have Al := nlt hg Aa; have Am := nsy (nlt hg Aa); replace Aa := bB Aa hb; clear hb hg; have Du := Al.out; have Dv := Am.out; obtain ⟨Cq, Cr, Cs, Ct, Cu, Cv, Cw, Cx⟩ := bz4 Aa) | ((with_reducible refine gate_callee (f := 96) rfl ?_); refine gl 7 Tryz.func96 #[.agg #[.int .i64 Aj, .int .i64 Ak, .int .i64 Aq, .int .i64 Ar]] ?_; (with_reducible refine (impl_IsMat.calls _ _ _ _ _ _ A2.out).mono ?_); rintro e w64 ⟨rfl, hb⟩; refine ⟨_, rfl, ?_⟩; replace Aa := bB Aa hb; replace Ab := bB Ab hb; replace HB := bS2 HB Ah Ai hb; (try clear hb); obtain ⟨Cy, Cz, CA, CB, CC, CD, CE, CF⟩ := bz4 Aa) | ((with_reducible refine gate_callee (f := 70) rfl ?_); refine gl 11 Tryz.func70 #[.agg #[.int .i64 Aj, .int .i64 Ak, .int .i64 Aq, .int .i64 Ar]] ?_; (with_reducible refine (impl_Mat_isReflection.calls _ _ _ _ _ _ _ A4.out).mono ?_); rintro e DT ⟨rfl, hb⟩; refine ⟨_, rfl, ?_⟩; replace Aa := bB Aa hb; replace Ab := bB Ab hb; replace HB := bS2 HB Ah Ai hb; (try clear hb); obtain ⟨CG, CH, CI, CJ⟩ := bz2 Ab))
   refine bodyPost_ret (results_ct rfl _ _ Au 44 #[.int .i64 0, .int .i64 0] (0, 0) _ rfl (bq0 Ab) Tryz.underlying44 rfl (by kernel_rfl)) rfl ?_
   exact er (bbw2 HB Ah Ai)
 ·replace c3 := Bool.eq_false_iff.mpr c3
  subst c3
  replace H := ifF H
  simp only [Option.some.injEq, Prod.mk.injEq] at H
  obtain ⟨rfl, rfl, rfl⟩ := H
  go_enter Tryz.func66, Tryz.ntmps66
  go_wp2_with (first | ((with_reducible refine gd 1 rfl ?_); refine bx #[.int .i64 Aj, .int .i64 Ak, .int .i64 Aq, .int .i64 Ar] 42 ?_; intro Ax hg DU Aa hb; have Ah := ngw0 hg HB; replace HB := bS0 HB hb; clear hb hg) | ((with_reducible refine gd 2 rfl ?_); refine bx #[.int .i64 0, .int .i64 0] 44 ?_; intro Au hg DV Ab hb; have Ai := ngw1 hg HB Ah; replace HB := bS1 HB Ah hb; have Al := nlt hg Aa; have Am := nsy (nlt hg Aa); replace Aa := bB Aa hb; clear hb hg; have Dw := Al.out; have Dx := Am.out; obtain ⟨CK, CL, CM, CN, CO, CP, CQ, CR⟩ := bz4 Aa) | ((with_reducible refine gate_callee (f := 96) rfl ?_); refine gl 7 Tryz.func96 #[.agg #[.int .i64 Aj, .int .i64 Ak, .int .i64 Aq, .int .i64 Ar]] ?_; (with_reducible refine (impl_IsMat.calls _ _ _ _ _ _ A2.out).mono ?_); rintro e DW ⟨rfl, hb⟩; refine ⟨_, rfl, ?_⟩; replace Aa := bB Aa hb; replace Ab := bB Ab hb; replace HB := bS2 HB Ah Ai hb; (try clear hb); obtain ⟨CS, CT, CU, CV⟩ := bz2 Ab))
  refine bodyPost_ret (results_ct rfl _ _ Au 44 #[.int .i64 0, .int .i64 0] (0, 0) _ rfl (bq0 Ab) Tryz.underlying44 rfl (by kernel_rfl)) rfl ?_
  exact er (bbw2 HB Ah Ai)
def impl_Mat_axis.f (k : Nat) (Af : Int) (Ag : Int) (Ah : Int) (Ai : Int) : Option (Int × Int) := (impl_AxisOf.f k Af Ag Ah Ai).bind fun Ae => (some (Ae.1, Ae.2.1))
theorem impl_Mat_axis.calls (k : Nat) (Af : Int) (Ag : Int) (Ah : Int) (Ai : Int) (r1 : Int) (r2 : Int) (w : World) (h : impl_Mat_axis.f k Af Ag Ah Ai = some (r1, r2)) :
  Calls Tryz.prog 35 #[.agg #[.int .i64 Af, .int .i64 Ag, .int .i64 Ah, .int .i64 Ai]] w fun e w' => e = .returned (.agg #[.int .i64 r1, .int .i64 r2]) ∧ Below w.heap.size w w' := by
 have hu42 := Tryz.underlying42
 have hu44 := Tryz.underlying44
 have HB := asd (Below.refl w.heap.size w)
 have H : ((impl_AxisOf.f k Af Ag Ah Ai).bind fun Ae => (some (Ae.1, Ae.2.1))) = some (r1, r2) := h
 clear h
 obtain ⟨⟨AA, AB, AO⟩, A2, H⟩ := ob H
 try dsimp only at H
 simp only [Option.some.injEq, Prod.mk.injEq] at H
 obtain ⟨rfl, rfl⟩ := H
 go_enter Tryz.func35, Tryz.ntmps35
 go_wp2_with (first | ((with_reducible refine gd 1 rfl ?_); refine bx #[.int .i64 Af, .int .i64 Ag, .int .i64 Ah, .int .i64 Ai] 42 ?_; intro AK hg w3 Aa hb; have Ac := ngw0 hg HB; replace HB := bS0 HB hb; clear hb hg) | ((with_reducible refine gd 2 rfl ?_); refine bx #[.int .i64 0, .int .i64 0] 44 ?_; intro Ap hg w4 Ab hb; have Aj := ngw1 hg HB Ac; replace HB := bS1 HB Ac hb; have Ak := nlt hg Aa; have Al := nsy (nlt hg Aa); replace Aa := bB Aa hb; clear hb hg; have AP := Ak.out; have AQ := Al.out; obtain ⟨AC, AD, AE, AF, AG, AH, AI, AJ⟩ := bz4 Aa) | ((with_reducible refine gate_callee (f := 66) rfl ?_); refine gl 7 Tryz.func66 #[.agg #[.int .i64 Af, .int .i64 Ag, .int .i64 Ah, .int .i64 Ai]] ?_; (with_reducible refine (impl_AxisOf.calls _ _ _ _ _ _ _ _ _ A2.out).mono ?_); rintro e w7 ⟨rfl, hb⟩; refine ⟨_, rfl, ?_⟩; replace Aa := bB Aa hb; replace Ab := bB Ab hb; replace HB := bS2 HB Ac Aj hb; (try clear hb)) | ((with_reducible refine gd 3 rfl ?_); refine bx #[.int .i64 0, .int .i64 0] 44 ?_; intro AL hg w8 Aq hb; have Ar := ngw2 hg HB Ac Aj; replace HB := bS2 HB Ac Aj hb; have Am := nlt hg Aa; have An := nsy (nlt hg Aa); replace Aa := bB Aa hb; have Ad := nlt hg Ab; have Ao := nsy (nlt hg Ab); replace Ab := bB Ab hb; clear hb hg; have AR := An.out; have AS := Am.out; have AM := Ao.out; have AN := Ad.out; obtain ⟨As, At, Au, Av⟩ := bz2 Aq; obtain ⟨Aw, Ax, Ay, Az⟩ := bz2 Ab))
 refine bodyPost_ret (results_cell_row rfl _ _ Ap 44 #[.int .i64 AA, .int .i64 AB] (0, 0) _ rfl (bq1 Ab Ad) Tryz.underlying44 rfl (by kernel_rfl)) rfl ?_
 exact er (bbw3 HB Ac Aj Ar)
mutual
def impl_vecsAround.l0 : Nat → Int → List (S44) → Int → Option ((List (S44)))
 | 0, _, _, _ => none
 | k + 1, x0, x3, x4 => if x4 ≤ x0 then (impl_vecsAround.l1 k x0 x3 x4 (wrap64 (-x0))) else (some x3)
def impl_vecsAround.l1 : Nat → Int → List (S44) → Int → Int → Option ((List (S44)))
 | 0, _, _, _, _ => none
 | k + 1, x0, x3, x4, x5 => if x5 ≤ x0 then (if x3.length < 8796093022208 then (impl_vecsAround.l1 k x0 (x3 ++ [(⟨x4, x5⟩ : S44)]) x4 (wrap64 (x5 + 1))) else (none)) else (impl_vecsAround.l0 k x0 x3 (wrap64 (x4 + 1)))
end
def impl_vecsAround.f (k : Nat) (a0 : Int) : Option ((List (S44))) := impl_vecsAround.l0 k a0 (([] : List (S44))) (wrap64 (-a0))
theorem impl_vecsAround.calls (k : Nat) (a0 : Int) (r : List (S44)) (w : World) (h : impl_vecsAround.f k a0 = some r) :
  Calls Tryz.prog 67 #[.int .i64 a0] w fun e w' => ∃ v0_ : Value, e = .returned (v0_) ∧ Kd.R k44 44 w' w.heap.size (fun _ => True) v0_ r ∧ Below w.heap.size w w' := by
 have hu44 := Tryz.underlying44
 have HB := asd (Below.refl w.heap.size w)
 have H : (impl_vecsAround.l0 k a0 (([] : List (S44))) (wrap64 (-a0))) = some r := h
 clear h
 obtain ⟨Ai, Ac⟩ : ∃ y_ : List (S44), y_ = (([] : List (S44))) := ⟨_, rfl⟩
 replace H : (impl_vecsAround.l0 k a0 Ai (wrap64 (-a0))) = some r := by first | (rw [Ac]; with_reducible exact H) | (have H2_ := (Option.bind_some _ _).symm.trans H; rw [Ac]; with_reducible exact H2_) | (have H2_ := (Option.bind_some _ _).symm.trans H; with_reducible exact H2_) | with_reducible exact H | (rw [Ac]; exact H) | exact H
 have Ah := Aside0.mk Ac
 clear Ac
 have H' := Aside0.mk H
 clear H
 go_enter Tryz.func67, Tryz.ntmps67
 go_wp2_with (first | ((with_reducible refine gd 6 rfl ?_); refine Kd.R_lit k44 _ 44 ?hg (N := 6) ?hd (xs := ([] : List (S44))) (inner := []) (ok := fun _ => True) (okp := fun _ => True) ?hr ?hp (fun _ hk => hk) trivial (Below.refl _ _) (Nat.le_refl _) (by simp) ?_; (case hd => rfl); (case hg => rfl); (case hr => first | (go_simp; done) | (go_simp; rfl)); (case hp => exact (Reps.none _ _)); intro v680 w2 Aj hb hg_ hnew_; clear hg_ hnew_; (first | rw [← Ah.out] at Aj | (simp only [Int.reduceToNat] at Aj; rw [← Ah.out] at Aj)); have Ak := asd (Kd.R_lower Aj (bsz0 HB)); replace HB := bS0 HB hb; clear hb Aj))
 go_loopg [3, 4] k (fun kq v3 v4 w' => ∃ (Ag : List (S44)) (Aa : Int), v4 = .int .i64 Aa ∧ Aside0 (impl_vecsAround.l0 kq a0 Ag Aa = some r) ∧ Aside0 (kq ≤ k) ∧ Aside0 (Kd.R k44 44 w' w.heap.size (fun _ => True) v3 Ag) ∧ Aside0 (Below w.heap.size w w'))
 case atStart => exact ⟨(Ai), (wrap64 (-a0)), (by first | rfl | (simp; done) | (simp [*]; done)), H', ⟨Nat.le_refl _⟩, ⟨by (with_reducible repeat (first | apply Kd.R_alloc | apply Kd.R_drewN | apply Kd.R_drew)); exact Ak.out⟩, ⟨bbw0 HB⟩⟩
 case round =>
  clear H'
  obtain ⟨Ag, Aa, rfl, HA, Ap, Af, HB⟩ := hrel
  cases gk with
  | zero => exact absurd HA.out (by simp [impl_vecsAround.l0])
  | succ k1 =>
   have H := HA.out
   clear HA
   simp only [impl_vecsAround.l0] at H
   by_cases c4 : Aa ≤ a0
   ·rw [if_pos c4] at H
    have Al := decide_eq_true c4
    clear c4
    have H' := Aside0.mk H
    clear H
    go_wp2
    go_loopg [3, 5] k1 (fun kq v3 v5 w' => ∃ (Ae : List (S44)) (Ab : Int), v5 = .int .i64 Ab ∧ Aside0 (impl_vecsAround.l1 kq a0 Ae Aa Ab = some r) ∧ Aside0 (kq ≤ k1) ∧ Aside0 (Kd.R k44 44 w' w.heap.size (fun _ => True) v3 Ae) ∧ Aside0 (Below w.heap.size w w'))
    case atStart => exact ⟨(Ag), (wrap64 (-a0)), (by first | rfl | (simp; done) | (simp [*]; done)), H', ⟨Nat.le_refl _⟩, ⟨by (with_reducible repeat (first | apply Kd.R_alloc | apply Kd.R_drewN | apply Kd.R_drew)); exact Af.out⟩, ⟨bbw0 HB⟩⟩
    case round =>
     clear H'
     try clear c4
     try clear Al
     obtain ⟨Ae, Ab, rfl, HA, Aq, Af, HB⟩ := hrel
     cases gk with
     | zero => exact absurd HA.out (by simp [impl_vecsAround.l1])
     | succ k2 =>
      have H := HA.out
      clear HA
      simp only [impl_vecsAround.l1] at H
      by_cases c5 : Ab ≤ a0
      ·rw [if_pos c5] at H
       have Ar := decide_eq_true c5
       clear c5
       by_cases c6 : Ae.length < 8796093022208
       ·rw [if_pos c6] at H
        have As := Aside0.mk c6
        clear c6
        obtain ⟨Am, Ad⟩ : ∃ y_ : List (S44), y_ = (Ae ++ [(⟨Aa, Ab⟩ : S44)]) := ⟨_, rfl⟩
        replace H : (impl_vecsAround.l1 k2 a0 Am Aa (wrap64 (Ab + 1))) = some r := by first | (rw [Ad]; with_reducible exact H) | (have H2_ := (Option.bind_some _ _).symm.trans H; rw [Ad]; with_reducible exact H2_) | (have H2_ := (Option.bind_some _ _).symm.trans H; with_reducible exact H2_) | with_reducible exact H | (rw [Ad]; exact H) | exact H
        have An := Aside0.mk Ad
        clear Ad
        have H' := Aside0.mk H
        clear H
        go_wp2_with (first | ((with_reducible refine gate_builtin (b := .append) (xs := #[.tmp 21, .tmp 25]) rfl ?_); at_builtin; refine Kd.R_append k44 (w0 := w) w.heap.size rfl (.tmp 21) (.tmp 25) 38 44 (.agg #[(.int .i64 0), (.int .i64 0)]) 16 rfl Tryz.underlying38 info44 rfl (by decide) (by omega) u3 Ae (⟨Aa, Ab⟩ : S44) [.int .i64 Aa, .int .i64 Ab] (fun _ => True) (fun _ => False) rfl rfl ?aP (fun _ hk => hk.elim) ?aF ?aO ?aB ?aS ?aL ?_; (case aP => exact k44_mkM _ _ _ (⟨Aa, Ab⟩ : S44)); (case aB => exact (bbw0 HB)); (case aF => exact (fun _ _ => trivial)); (case aO => exact (kr Af)); (case aS => exact (bsz0 HB)); (case aL => have := As.out; omega); intro v683 w7 ho hb hg hat; rw [← An.out] at ho; have At := asd (hb); have Au := asd (ho); clear HB; clear Af; have HB := At; have Ao := Au; clear At Au; clear ho hb hg hat))
        go_roundg k2
        case measure => have := Ap.out; have := Aq.out; omega
        case rel => exact ⟨(Am), (wrap64 (Ab + 1)), (by first | rfl | (simp; done) | (simp [*]; done)), H', ⟨by have := Ap.out; have := Aq.out; omega⟩, ⟨by (with_reducible repeat (first | apply Kd.R_alloc | apply Kd.R_drewN | apply Kd.R_drew)); exact Ao.out⟩, ⟨bbw0 HB⟩⟩
       ·rw [if_neg c6] at H
        exact absurd H (by simp)
      ·rw [if_neg c5] at H
       have Ar := decide_eq_false c5
       clear c5
       have H' := Aside0.mk H
       clear H
       go_wp2
       go_roundg k2
       case measure => have := Ap.out; have := Aq.out; omega
       case rel => exact ⟨(Ae), (wrap64 (Aa + 1)), (by first | rfl | (simp; done) | (simp [*]; done)), H', ⟨by have := Ap.out; have := Aq.out; omega⟩, ⟨by (with_reducible repeat (first | apply Kd.R_alloc | apply Kd.R_drewN | apply Kd.R_drew)); exact Af.out⟩, ⟨bbw0 HB⟩⟩
   ·rw [if_neg c4] at H
    have Al := decide_eq_false c4
    clear c4
    obtain rfl := Option.some.inj H
    go_wp2
    go_ret
    exact ⟨_, by first | rfl | (simp [errW_none, errW_some] <;> rfl) | (simp [*, errW_none, errW_some] <;> rfl), by (with_reducible repeat (first | apply Kd.R_alloc | apply Kd.R_drewN | apply Kd.R_drew)); exact Af.out, bbw0 HB⟩
mutual
def impl_shortestVecs.l0 : Nat → Int → List (S44) → Int → List (S44) → Int → Int → Int → Int → Int → Option ((List (S44)))
 | 0, _, _, _, _, _, _, _, _, _ => none
 | k + 1, x0, x5, x6, Au, AI, At, Ai, Aj, Ak => if At < AI then (if 0 ≤ At then (if At < (Au.length : Int) then ((impl_norm.f x0 ((rd_T44 Au At).f0) ((rd_T44 Au At).f1)).bind fun Ao => (if Ao = 0 then (impl_shortestVecs.j1 k x0 x5 x6 Ao Au AI At true Ai Aj Ak ((rd_T44 Au At).f0) ((rd_T44 Au At).f1)) else ((impl_Lattice_has.f Ai Aj Ak ((rd_T44 Au At).f0) ((rd_T44 Au At).f1)).bind fun Bp => (if Bp = true then (if x6 > 0 then (impl_shortestVecs.j1 k x0 x5 x6 Ao Au AI At (decide (Ao > x6)) Ai Aj Ak ((rd_T44 Au At).f0) ((rd_T44 Au At).f1)) else (impl_shortestVecs.j1 k x0 x5 x6 Ao Au AI At false Ai Aj Ak ((rd_T44 Au At).f0) ((rd_T44 Au At).f1))) else (impl_shortestVecs.j1 k x0 x5 x6 Ao Au AI At true Ai Aj Ak ((rd_T44 Au At).f0) ((rd_T44 Au At).f1)))))) else (none)) else (none)) else (some x5)
def impl_shortestVecs.j1 : Nat → Int → List (S44) → Int → Int → List (S44) → Int → Int → Bool → Int → Int → Int → Int → Int → Option ((List (S44)))
 | 0, _, _, _, _, _, _, _, _, _, _, _, _, _ => none
 | k + 1, x0, x5, x6, x9, Au, AI, At, Cl, Ai, Aj, Ak, AC, AD => if Cl = true then (impl_shortestVecs.l0 k x0 x5 x6 Au AI (wrap64 (At + 1)) Ai Aj Ak) else (if x9 = x6 then (if x5.length < 8796093022208 then (impl_shortestVecs.l0 k x0 (x5 ++ [(⟨AC, AD⟩ : S44)]) x6 Au AI (wrap64 (At + 1)) Ai Aj Ak) else (none)) else (if ([] : List (S44)).length < 8796093022208 then (impl_shortestVecs.l0 k x0 (([] : List (S44)) ++ [(⟨AC, AD⟩ : S44)]) x9 Au AI (wrap64 (At + 1)) Ai Aj Ak) else (none)))
end
def impl_shortestVecs.f (k : Nat) (a0 : Int) (Ap : Int) (Aq : Int) (Ar : Int) : Option ((List (S44))) := (impl_vecsAround.f k 12).bind fun Ab => (impl_shortestVecs.l0 k a0 (([] : List (S44))) 0 Ab (Ab.length : Int) 0 Ap Aq Ar)
theorem impl_shortestVecs.calls (k : Nat) (a0 : Int) (Ap : Int) (Aq : Int) (Ar : Int) (r : List (S44)) (w : World) (h : impl_shortestVecs.f k a0 Ap Aq Ar = some r) :
  Calls Tryz.prog 36 #[.int .i64 a0, .agg #[.int .i64 Ap, .int .i64 Aq, .int .i64 Ar]] w fun e w' => ∃ v0_ : Value, e = .returned (v0_) ∧ Kd.R k44 44 w' w.heap.size (fun _ => True) v0_ r ∧ Below w.heap.size w w' := by
 have hu30 := Tryz.underlying30
 have hu44 := Tryz.underlying44
 have HB := asd (Below.refl w.heap.size w)
 have H : ((impl_vecsAround.f k 12).bind fun Ab => (impl_shortestVecs.l0 k a0 (([] : List (S44))) 0 Ab (Ab.length : Int) 0 Ap Aq Ar)) = some r := h
 clear h
 obtain ⟨Bt, Ay⟩ : ∃ y_ : List (S44), y_ = (([] : List (S44))) := ⟨_, rfl⟩
 replace H : ((impl_vecsAround.f k 12).bind fun Ab => (impl_shortestVecs.l0 k a0 Bt 0 Ab (Ab.length : Int) 0 Ap Aq Ar)) = some r := by first | (rw [Ay]; with_reducible exact H) | (have H2_ := (Option.bind_some _ _).symm.trans H; rw [Ay]; with_reducible exact H2_) | (have H2_ := (Option.bind_some _ _).symm.trans H; with_reducible exact H2_) | with_reducible exact H | (rw [Ay]; exact H) | exact H
 have Bk := Aside0.mk Ay
 clear Ay
 obtain ⟨Ab, A3, H⟩ := ob H
 try dsimp only at H
 have H' := Aside0.mk H
 clear H
 go_enter Tryz.func36, Tryz.ntmps36
 go_wp2_with (first | ((with_reducible refine gd 3 rfl ?_); refine bx #[.int .i64 Ap, .int .i64 Aq, .int .i64 Ar] 30 ?_; intro Az hg w4 Ac hb; have Af := ngw0 hg HB; replace HB := bS0 HB hb; clear hb hg) | ((with_reducible refine gd 10 rfl ?_); refine Kd.R_lit k44 _ 44 ?hg (N := 10) ?hd (xs := ([] : List (S44))) (inner := []) (ok := fun _ => True) (okp := fun _ => True) ?hr ?hp (fun _ hk => hk) trivial (Below.refl _ _) (Nat.le_refl _) (by simp) ?_; (case hd => rfl); (case hg => rfl); (case hr => first | (go_simp; done) | (go_simp; rfl)); (case hp => exact (Reps.none _ _)); intro v687 w5 Bu hb hg_ hnew_; clear hg_ hnew_; (first | rw [← Bk.out] at Bu | (simp only [Int.reduceToNat] at Bu; rw [← Bk.out] at Bu)); have AE := asd (Kd.R_lower Bu (bsz1 HB Af)); replace Ac := bB Ac hb; replace HB := bS1 HB Af hb; clear hb Bu) | ((with_reducible refine gate_callee (f := 67) rfl ?_); refine gl 11 Tryz.func67 #[.int .i64 12] ?_; (with_reducible refine (impl_vecsAround.calls _ _ _ _ A3.out).mono ?_); rintro e w7 ⟨v690, rfl, BV, hb⟩; refine ⟨_, rfl, ?_⟩; have Bl := asd (Kd.R_lower (Kd.R_new' BV (Kd.R_lt (kr AE))) (bsz1 HB Af)); replace AE := asd (Kd.R_elder' (kr AE) (Kd.R_base BV) hb); replace Ac := bB Ac hb; replace HB := bS1 HB Af hb; (try clear hb); (try clear hb2); (try clear hk); (try clear hi); (try clear BV); obtain ⟨Ao8, co8, eo8⟩ := Kd.R_slice Bl.out; subst eo8))
 go_loopg [5, 6, 13] k (fun kq v5 v6 v13 w' => ∃ (Aw : List (S44)) (As : Int) (Aa : Int), v6 = .int .i64 As ∧ v13 = .int .i64 Aa ∧ Aside0 (impl_shortestVecs.l0 kq a0 Aw As Ab (Ab.length : Int) Aa Ap Aq Ar = some r) ∧ Aside0 (kq ≤ k) ∧ Aside0 (Kd.R k44 44 w' w.heap.size (fun k_ => some k_ ≠ ((.slice Ao8 Ab.length co8) : Value).ownBlock) v5 Aw) ∧ Aside0 (Kd.R k44 44 w' w.heap.size (fun k_ => some k_ ≠ (v5 : Value).ownBlock) (.slice Ao8 Ab.length co8) Ab) ∧ Aside0 (w'.heap[Az]? = some (.cells #[.int .i64 Ap, .int .i64 Aq, .int .i64 Ar] 30 (0, 0))) ∧ Aside0 (Below w.heap.size w w'))
 case atStart => exact ⟨(Bt), (0), (0), (by first | rfl | (simp; done) | (simp [*]; done)), (by first | rfl | (simp; done) | (simp [*]; done)), H', ⟨Nat.le_refl _⟩, ⟨by (with_reducible repeat (first | apply Kd.R_alloc | apply Kd.R_drewN | apply Kd.R_drew)); exact Kd.R_mono AE.out (fun _ hk => hk.2)⟩, ⟨by (with_reducible repeat (first | apply Kd.R_alloc | apply Kd.R_drewN | apply Kd.R_drew)); exact Kd.R_mono Bl.out (fun _ hk => hk.2)⟩, ⟨bkp Ac⟩, ⟨bbw1 HB Af⟩⟩
 case round =>
  clear H'
  obtain ⟨Aw, As, Aa, rfl, rfl, HA, AH, Al, Ad, Ac, HB⟩ := hrel
  cases gk with
  | zero => exact absurd HA.out (by simp [impl_shortestVecs.l0])
  | succ k1 =>
   have H := HA.out
   clear HA
   simp only [impl_shortestVecs.l0] at H
   by_cases c9 : Aa < (Ab.length : Int)
   ·rw [if_pos c9] at H
    have Bv := decide_eq_true c9
    clear c9
    by_cases c10 : 0 ≤ Aa
    ·rw [if_pos c10] at H
     have Bw := decide_eq_true c10
     clear c10
     by_cases Bx : Aa < (Ab.length : Int)
     ·rw [if_pos Bx] at H
      have By := decide_eq_true Bx
      clear Bx
      obtain ⟨Ao, Cm, H⟩ := ob H
      try dsimp only at H
      have Bq := Aside0.mk H
      clear H
      have p692 : 0 ≤ (Aa : Int) := od
      have q692 : Aa < (Ab.length : Int) := od
      obtain ⟨ad692, e692, AJ, AK⟩ := at_T44 (Kd.R_reads' Ad.out).2.2 Aa p692 q692
      cases e692
      replace p692 := eq_true p692
      replace q692 := eq_true q692
      go_upto_region 6 with (first | ((with_reducible refine gd 8 rfl ?_); refine bx #[.int .i64 0, .int .i64 0] 44 ?_; intro Ah hg Cn Ae hb; replace Al := asd (Kd.R_below (Kd.R_elderB (kr Al) Ah (Nat.le_of_eq hg.symm)) hb); replace Ad := asd (Kd.R_below (Kd.R_elderB (kr Ad) Ah (Nat.le_of_eq hg.symm)) hb); have An := ngw1 hg HB Af; replace HB := bS1 HB Af hb; have Ag := nlt hg Ac; have Am := nsy (nlt hg Ac); replace Ac := bB Ac hb; clear hb hg; have BX := Am.out; have BY := Ag.out; obtain ⟨AL, AM, AN, AO⟩ := bz2 Ae) | ((with_reducible refine gate_callee (f := 68) rfl ?_); refine gl 19 Tryz.func68 #[.int .i64 a0, .agg #[.int .i64 ((rd_T44 Ab Aa).f0), .int .i64 ((rd_T44 Ab Aa).f1)]] ?_; (with_reducible refine (impl_norm.calls _ _ _ _ _ Cm.out).mono ?_); rintro e Co ⟨rfl, hb⟩; refine ⟨_, rfl, ?_⟩; replace Al := asd (Kd.R_below (by (with_reducible repeat (first | apply Kd.R_alloc | apply Kd.R_drewN | apply Kd.R_drew)); exact (Kd.R_mono (rw2 (Kd.R_mono Al.out (fun k_ hk => (⟨hk, hk.2⟩ : _ ∧ k_ ≠ Ah)))) (fun _ h_ => h_.1))) hb); replace Ad := asd (Kd.R_below (by (with_reducible repeat (first | apply Kd.R_alloc | apply Kd.R_drewN | apply Kd.R_drew)); exact (Kd.R_mono (rw2 (Kd.R_mono Ad.out (fun k_ hk => (⟨hk, hk.2⟩ : _ ∧ k_ ≠ Ah)))) (fun _ h_ => h_.1))) hb); replace Ac := asd (blk_below (g := Az) (o := .cells #[.int .i64 Ap, .int .i64 Aq, .int .i64 Ar] 30 (0, 0)) (bq1 Ac Ag) hb); replace Ae := asd (blk_below (g := Ah) (o := .cells #[.int .i64 ((rd_T44 Ab Aa).f0), .int .i64 ((rd_T44 Ab Aa).f1)] 44 (0, 0)) (bq0 Ae) hb); replace HB := bS2 HB Af An hb; (try clear hb)))
      (try simp only [Act.put, sA, sB, sC])
      go_cut [36] (fun v36 wc => ∃ (kq : Nat) (Ax : Bool), v36 = .bool Ax ∧ Aside0 (impl_shortestVecs.j1 kq a0 Aw As Ao Ab (Ab.length : Int) Aa Ax Ap Aq Ar ((rd_T44 Ab Aa).f0) ((rd_T44 Ab Aa).f1) = some r) ∧ Aside0 (kq ≤ k1) ∧ Aside0 (Kd.R k44 44 wc w.heap.size (fun k_ => some k_ ≠ ((.slice (some ad692) Ab.length co8) : Value).ownBlock ∧ k_ ≠ Ah) u5 Aw) ∧ Aside0 (Kd.R k44 44 wc w.heap.size (fun k_ => some k_ ≠ (u5 : Value).ownBlock ∧ k_ ≠ Ah) (.slice (some ad692) Ab.length co8) Ab) ∧ Aside0 (wc.heap[Az]? = some (.cells #[.int .i64 Ap, .int .i64 Aq, .int .i64 Ar] 30 (0, 0))) ∧ Aside0 (wc.heap[Ah]? = some (.cells #[.int .i64 ((rd_T44 Ab Aa).f0), .int .i64 ((rd_T44 Ab Aa).f1)] 44 (0, 0))) ∧ Aside0 (Below w.heap.size w wc))
      case first =>
       have H := Bq.out
       clear Bq
       by_cases Bm : Ao = 0
       ·rw [if_pos Bm] at H
        have Av : (Ao == 0) = true := beq_iff_eq.mpr Bm
        have Bn : (Ao != 0) = false := bne_eq_false_iff_eq.mpr Bm
        clear Bm
        (first | rw [Av] | (simp only [i64_w, i32_w]; rw [Av]) | skip)
        have H' := Aside0.mk H
        clear H
        go_wp2
        go_meet
        case rel => exact ⟨_, (true), (by first | rfl | (simp; done) | (simp [*]; done)), H', ⟨by have := AH.out; first | omega | exact Nat.le_refl _⟩, ⟨by (with_reducible repeat (first | apply Kd.R_alloc | apply Kd.R_drewN | apply Kd.R_drew)); exact Al.out⟩, ⟨by (with_reducible repeat (first | apply Kd.R_alloc | apply Kd.R_drewN | apply Kd.R_drew)); exact Ad.out⟩, ⟨bkp Ac⟩, ⟨bkp Ae⟩, ⟨bbw2 HB Af An⟩⟩
       ·rw [if_neg Bm] at H
        have Av : (Ao == 0) = false := beq_eq_false_iff_ne.mpr Bm
        have Bn : (Ao != 0) = true := bne_iff_ne.mpr Bm
        (first | rw [Av] | (simp only [i64_w, i32_w]; rw [Av]) | skip)
        obtain ⟨Bp, BW, H⟩ := ob H
        try dsimp only at H
        by_cases Bz : Bp = true
        ·subst Bz
         replace H := ifT H
         by_cases Br : As > 0
         ·rw [if_pos Br] at H
          have Bo : decide (0 < As) = true := decide_eq_true Br
          clear Br
          have H' := Aside0.mk H
          clear H
          have BZ := Ag.out
          have B0 := Am.out
          obtain ⟨AP, AQ, AR, AS, AT, AU⟩ := bz3 Ac
          obtain ⟨AV, AW, AX, AY⟩ := bz2 Ae
          go_wp2_with (first | (go_at_call 64; (with_reducible refine (impl_Lattice_has.calls _ _ _ _ _ _ _ BW.out).mono ?_); rintro e Cp ⟨rfl, hb⟩; replace Al := asd (Kd.R_below (kr Al) hb); replace Ad := asd (Kd.R_below (kr Ad) hb); replace Ac := bB Ac hb; replace Ae := bB Ae hb; replace HB := bS2 HB Af An hb; (try clear hb)))
          go_meet
          case rel => exact ⟨_, (decide (Ao > As)), (by first | rfl | (simp; done) | (simp [*]; done)), H', ⟨by have := AH.out; first | omega | exact Nat.le_refl _⟩, ⟨by (with_reducible repeat (first | apply Kd.R_alloc | apply Kd.R_drewN | apply Kd.R_drew)); exact Al.out⟩, ⟨by (with_reducible repeat (first | apply Kd.R_alloc | apply Kd.R_drewN | apply Kd.R_drew)); exact Ad.out⟩, ⟨bkp Ac⟩, ⟨bkp Ae⟩, ⟨bbw2 HB Af An⟩⟩
         ·rw [if_neg Br] at H
          have Bo : decide (0 < As) = false := decide_eq_false Br
          clear Br
          have H' := Aside0.mk H
          clear H
          have B3 := Ag.out
          have B8 := Am.out
          obtain ⟨AZ, A0, A1, A2, A4, A5⟩ := bz3 Ac
          obtain ⟨A6, A7, A8, A9⟩ := bz2 Ae
          go_wp2_with (first | (go_at_call 64; (with_reducible refine (impl_Lattice_has.calls _ _ _ _ _ _ _ BW.out).mono ?_); rintro e Cq ⟨rfl, hb⟩; replace Al := asd (Kd.R_below (kr Al) hb); replace Ad := asd (Kd.R_below (kr Ad) hb); replace Ac := bB Ac hb; replace Ae := bB Ae hb; replace HB := bS2 HB Af An hb; (try clear hb)))
          go_meet
          case rel => exact ⟨_, (false), (by first | rfl | (simp; done) | (simp [*]; done)), H', ⟨by have := AH.out; first | omega | exact Nat.le_refl _⟩, ⟨by (with_reducible repeat (first | apply Kd.R_alloc | apply Kd.R_drewN | apply Kd.R_drew)); exact Al.out⟩, ⟨by (with_reducible repeat (first | apply Kd.R_alloc | apply Kd.R_drewN | apply Kd.R_drew)); exact Ad.out⟩, ⟨bkp Ac⟩, ⟨bkp Ae⟩, ⟨bbw2 HB Af An⟩⟩
        ·replace Bz := Bool.eq_false_iff.mpr Bz
         subst Bz
         replace H := ifF H
         have H' := Aside0.mk H
         clear H
         have Ca := Ag.out
         have Cb := Am.out
         obtain ⟨Ba, Bb, Bc, Bd, Be, Bf⟩ := bz3 Ac
         obtain ⟨Bg, Bh, Bi, Bj⟩ := bz2 Ae
         go_wp2_with (first | (go_at_call 64; (with_reducible refine (impl_Lattice_has.calls _ _ _ _ _ _ _ BW.out).mono ?_); rintro e Cr ⟨rfl, hb⟩; replace Al := asd (Kd.R_below (kr Al) hb); replace Ad := asd (Kd.R_below (kr Ad) hb); replace Ac := bB Ac hb; replace Ae := bB Ae hb; replace HB := bS2 HB Af An hb; (try clear hb)))
         go_meet
         case rel => exact ⟨_, (true), (by first | rfl | (simp; done) | (simp [*]; done)), H', ⟨by have := AH.out; first | omega | exact Nat.le_refl _⟩, ⟨by (with_reducible repeat (first | apply Kd.R_alloc | apply Kd.R_drewN | apply Kd.R_drew)); exact Al.out⟩, ⟨by (with_reducible repeat (first | apply Kd.R_alloc | apply Kd.R_drewN | apply Kd.R_drew)); exact Ad.out⟩, ⟨bkp Ac⟩, ⟨bkp Ae⟩, ⟨bbw2 HB Af An⟩⟩
      case rest =>
       clear Bq
       try clear c9
       try clear Bv
       try clear c10
       try clear Bw
       try clear Bx
       try clear By
       try clear Bm
       try clear Av
       try clear Bn
       try clear Bz
       try clear Br
       try clear Bo
       try clear AL
       try clear AM
       try clear AP
       try clear AQ
       try clear AR
       try clear AV
       try clear AW
       try clear AZ
       try clear A0
       try clear A1
       try clear A6
       try clear A7
       try clear Ba
       try clear Bb
       try clear Bc
       try clear Bg
       try clear Bh
       try clear AN
       try clear AO
       try clear AS
       try clear AT
       try clear AU
       try clear AX
       try clear AY
       try clear A2
       try clear A4
       try clear A5
       try clear A8
       try clear A9
       try clear Bd
       try clear Be
       try clear Bf
       try clear Bi
       try clear Bj
       try clear AJ
       try clear AK
       try clear p692
       try clear q692
       obtain ⟨kq, Ax, rfl, HA, AF, Al, Ad, Ac, Ae, HB⟩ := hcut
       cases kq with
       | zero => exact absurd HA.out (by simp [impl_shortestVecs.j1])
       | succ AG =>
        have H := HA.out
        clear HA
        simp only [impl_shortestVecs.j1] at H
        by_cases BK : Ax = true
        ·subst BK
         replace H := ifT H
         have H' := Aside0.mk H
         clear H
         go_wp2
         go_roundg AG
         case measure => have := AH.out; have := AF.out; omega
         case rel => exact ⟨(Aw), (As), (wrap64 (Aa + 1)), (by first | rfl | (simp; done) | (simp [*]; done)), (by first | rfl | (simp; done) | (simp [*]; done)), H', ⟨by have := AH.out; have := AF.out; omega⟩, ⟨by (with_reducible repeat (first | apply Kd.R_alloc | apply Kd.R_drewN | apply Kd.R_drew)); exact Kd.R_mono Al.out (fun _ hk => hk.1)⟩, ⟨by (with_reducible repeat (first | apply Kd.R_alloc | apply Kd.R_drewN | apply Kd.R_drew)); exact Kd.R_mono Ad.out (fun _ hk => hk.1)⟩, ⟨bkp Ac⟩, ⟨bbw2 HB Af An⟩⟩
        ·replace BK := Bool.eq_false_iff.mpr BK
         subst BK
         replace H := ifF H
         by_cases Bs : Ao = As
         ·rw [if_pos Bs] at H
          have BA : (Ao == As) = true := beq_iff_eq.mpr Bs
          have BB : (Ao != As) = false := bne_eq_false_iff_eq.mpr Bs
          clear Bs
          by_cases BL : Aw.length < 8796093022208
          ·rw [if_pos BL] at H
           have BC := Aside0.mk BL
           clear BL
           obtain ⟨BD, AA⟩ : ∃ y_ : List (S44), y_ = (Aw ++ [(⟨((rd_T44 Ab Aa).f0), ((rd_T44 Ab Aa).f1)⟩ : S44)]) := ⟨_, rfl⟩
           replace H : (impl_shortestVecs.l0 AG a0 BD As Ab (Ab.length : Int) (wrap64 (Aa + 1)) Ap Aq Ar) = some r := by first | (rw [AA]; with_reducible exact H) | (have H2_ := (Option.bind_some _ _).symm.trans H; rw [AA]; with_reducible exact H2_) | (have H2_ := (Option.bind_some _ _).symm.trans H; with_reducible exact H2_) | with_reducible exact H | (rw [AA]; exact H) | exact H
           have BE := Aside0.mk AA
           clear AA
           have H' := Aside0.mk H
           clear H
           have Cc := Am.out
           have Cd := Ag.out
           obtain ⟨BM, BN, BO, BP⟩ := bz2 Ae
           go_wp2_with (first | ((with_reducible refine gate_builtin (b := .append) (xs := #[.tmp 41, .tmp 43]) rfl ?_); at_builtin; refine Kd.R_append k44 (w0 := w) w.heap.size rfl (.tmp 41) (.tmp 43) 38 44 (.agg #[(.int .i64 0), (.int .i64 0)]) 16 rfl Tryz.underlying38 info44 rfl (by decide) (by omega) u5 Aw (⟨((rd_T44 Ab Aa).f0), ((rd_T44 Ab Aa).f1)⟩ : S44) [.int .i64 ((rd_T44 Ab Aa).f0), .int .i64 ((rd_T44 Ab Aa).f1)] (fun k_ => some k_ ≠ (.slice (some ad692) Ab.length co8 : Value).ownBlock ∧ k_ ≠ Ah) (fun _ => False) rfl rfl ?aP (fun _ hk => hk.elim) ?aF ?aO ?aB ?aS ?aL ?_; (case aP => exact k44_mkM _ _ _ (⟨((rd_T44 Ab Aa).f0), ((rd_T44 Ab Aa).f1)⟩ : S44)); (case aB => exact (bbw2 HB Af An)); (case aF => exact (fun k_ hk => ⟨Kd.fresh' (Kd.R_lt (kr Ad)) k_ hk, Kd.freshB (g := Ah) (o := .cells #[.int .i64 ((rd_T44 Ab Aa).f0), .int .i64 ((rd_T44 Ab Aa).f1)] 44 (0, 0)) (bkp Ae) k_ hk⟩)); (case aO => exact (kr Al)); (case aS => exact (bsz2 HB Af An)); (case aL => have := BC.out; omega); intro v697 Cs ho hb hg hat; rw [← BE.out] at ho; have Ce := asd (Kd.R_after (ok := (fun k_ => k_ ≠ Ah)) (by (with_reducible repeat (first | apply Kd.R_alloc | apply Kd.R_drewN | apply Kd.R_drew)); exact Kd.R_mono Ad.out (fun _ hk => ⟨hk.2, hk.1⟩)) hg hat); have Cf := asd (blk_grown (g := Az) (o := .cells #[.int .i64 Ap, .int .i64 Aq, .int .i64 Ar] 30 (0, 0)) (bkp Ac) hg (Kd.R_ne Al.out Ac.out (by decide))); have Cg := asd (blk_grown (g := Ah) (o := .cells #[.int .i64 ((rd_T44 Ab Aa).f0), .int .i64 ((rd_T44 Ab Aa).f1)] 44 (0, 0)) (bkp Ae) hg (Kd.R_away Al.out (fun _ hk => hk.2))); have Ch := asd (hb); have Ci := asd (ho); clear Ad; clear Ac; clear Ae; clear HB; clear Al; have Ad := Ce; have Ac := Cf; have Ae := Cg; have HB := Ch; have BF := Ci; clear Ce Cf Cg Ch Ci; clear ho hb hg hat))
           go_roundg AG
           case measure => have := AH.out; have := AF.out; omega
           case rel => exact ⟨(BD), (As), (wrap64 (Aa + 1)), (by first | rfl | (simp; done) | (simp [*]; done)), (by first | rfl | (simp; done) | (simp [*]; done)), H', ⟨by have := AH.out; have := AF.out; omega⟩, ⟨by (with_reducible repeat (first | apply Kd.R_alloc | apply Kd.R_drewN | apply Kd.R_drew)); exact Kd.R_mono BF.out (fun _ hk => hk.1)⟩, ⟨by (with_reducible repeat (first | apply Kd.R_alloc | apply Kd.R_drewN | apply Kd.R_drew)); exact Kd.R_mono Ad.out (fun _ hk => hk.2)⟩, ⟨bkp Ac⟩, ⟨bbw2 HB Af An⟩⟩
          ·rw [if_neg BL] at H
           exact absurd H (by simp)
         ·rw [if_neg Bs] at H
          have BA : (Ao == As) = false := beq_eq_false_iff_ne.mpr Bs
          have BB : (Ao != As) = true := bne_iff_ne.mpr Bs
          by_cases BQ : ([] : List (S44)).length < 8796093022208
          ·rw [if_pos BQ] at H
           have BG := Aside0.mk BQ
           clear BQ
           obtain ⟨BH, AB⟩ : ∃ y_ : List (S44), y_ = (([] : List (S44)) ++ [(⟨((rd_T44 Ab Aa).f0), ((rd_T44 Ab Aa).f1)⟩ : S44)]) := ⟨_, rfl⟩
           replace H : (impl_shortestVecs.l0 AG a0 BH Ao Ab (Ab.length : Int) (wrap64 (Aa + 1)) Ap Aq Ar) = some r := by first | (rw [AB]; with_reducible exact H) | (have H2_ := (Option.bind_some _ _).symm.trans H; rw [AB]; with_reducible exact H2_) | (have H2_ := (Option.bind_some _ _).symm.trans H; with_reducible exact H2_) | with_reducible exact H | (rw [AB]; exact H) | exact H
           have BI := Aside0.mk AB
           clear AB
           have H' := Aside0.mk H
           clear H
           have Cj := Am.out
           have Ck := Ag.out
           obtain ⟨BR, BS, BT, BU⟩ := bz2 Ae
           go_wp2_with (first | ((with_reducible refine gate_builtin (b := .append) (xs := #[.tmp 41, .tmp 43]) rfl ?_); at_builtin; refine Kd.R_append k44 (w0 := w) w.heap.size rfl (.tmp 41) (.tmp 43) 38 44 (.agg #[(.int .i64 0), (.int .i64 0)]) 16 rfl Tryz.underlying38 info44 rfl (by decide) (by omega) (.slice none 0 0) ([] : List (S44)) (⟨((rd_T44 Ab Aa).f0), ((rd_T44 Ab Aa).f1)⟩ : S44) [.int .i64 ((rd_T44 Ab Aa).f0), .int .i64 ((rd_T44 Ab Aa).f1)] (fun k_ => some k_ ≠ (u5 : Value).ownBlock ∧ some k_ ≠ (.slice (some ad692) Ab.length co8 : Value).ownBlock ∧ k_ ≠ Ah) (fun _ => False) rfl rfl ?aP (fun _ hk => hk.elim) ?aF ?aO ?aB ?aS ?aL ?_; (case aP => exact k44_mkM _ _ _ (⟨((rd_T44 Ab Aa).f0), ((rd_T44 Ab Aa).f1)⟩ : S44)); (case aB => exact (bbw2 HB Af An)); (case aF => exact (fun k_ hk => ⟨Kd.fresh' (Kd.R_lt (kr Al)) k_ hk, Kd.fresh' (Kd.R_lt (kr Ad)) k_ hk, Kd.freshB (g := Ah) (o := .cells #[.int .i64 ((rd_T44 Ab Aa).f0), .int .i64 ((rd_T44 Ab Aa).f1)] 44 (0, 0)) (bkp Ae) k_ hk⟩)); (case aO => exact ((Kd.R_nil _ _ _ _ (fun k_ => some k_ ≠ (u5 : Value).ownBlock ∧ some k_ ≠ (.slice (some ad692) Ab.length co8 : Value).ownBlock ∧ k_ ≠ Ah)))); (case aS => exact (bsz2 HB Af An)); (case aL => have := BG.out; omega); intro v700 Ct ho hb hg hat; rw [← BI.out] at ho; replace Al := asd (Kd.R_after (Kd.R_apart_nil (kr Al)) hg hat); replace Ad := asd (Kd.R_after (Kd.R_apart_nil (kr Ad)) hg hat); replace Ac := asd (blk_grown (g := Az) (o := .cells #[.int .i64 Ap, .int .i64 Aq, .int .i64 Ar] 30 (0, 0)) (bkp Ac) hg (by simp [Value.ownBlock])); replace Ae := asd (blk_grown (g := Ah) (o := .cells #[.int .i64 ((rd_T44 Ab Aa).f0), .int .i64 ((rd_T44 Ab Aa).f1)] 44 (0, 0)) (bkp Ae) hg (by simp [Value.ownBlock])); replace HB := asd (hb); have BJ := asd (ho); clear ho hb hg hat))
           go_roundg AG
           case measure => have := AH.out; have := AF.out; omega
           case rel => exact ⟨(BH), (Ao), (wrap64 (Aa + 1)), (by first | rfl | (simp; done) | (simp [*]; done)), (by first | rfl | (simp; done) | (simp [*]; done)), H', ⟨by have := AH.out; have := AF.out; omega⟩, ⟨by (with_reducible repeat (first | apply Kd.R_alloc | apply Kd.R_drewN | apply Kd.R_drew)); exact Kd.R_mono BJ.out (fun _ hk => hk.2.1)⟩, ⟨by (with_reducible repeat (first | apply Kd.R_alloc | apply Kd.R_drewN | apply Kd.R_drew)); exact Kd.R_mono Ad.out (fun _ hk => hk.2)⟩, ⟨bkp Ac⟩, ⟨bbw2 HB Af An⟩⟩
          ·rw [if_neg BQ] at H
           exact absurd H (by simp)
     ·rw [if_neg Bx] at H
      exact absurd H (by simp)
    ·rw [if_neg c10] at H
     exact absurd H (by simp)
   ·rw [if_neg c9] at H
    have Bv := decide_eq_false c9
    clear c9
    obtain rfl := Option.some.inj H
    go_wp2
    go_ret
    exact ⟨_, by first | rfl | (simp [errW_none, errW_some] <;> rfl) | (simp [*, errW_none, errW_some] <;> rfl), by (with_reducible repeat (first | apply Kd.R_alloc | apply Kd.R_drewN | apply Kd.R_drew)); exact Kd.R_mono Al.out (fun _ hk => trivial), bbw1 HB Af⟩
def impl_Vec_69.l0 : Nat → List (S44) → Int → Int → Int → Int → Option (Int)
 | 0, _, _, _, _, _ => none
 | k + 1, x0, x7, x8, Af, Ag => if x8 < x7 then (if 0 ≤ x8 then (if x8 < (x0.length : Int) then (if (Af == ((rd_T44 x0 x8).f0) && (Ag == ((rd_T44 x0 x8).f1))) = true then (some x8) else (impl_Vec_69.l0 k x0 x7 (wrap64 (x8 + 1)) Af Ag)) else (none)) else (none)) else (some (-1))
def impl_Vec_69.f (k : Nat) (l0 : List (S44)) (Ab : Int) (Ac : Int) : Option (Int) := impl_Vec_69.l0 k l0 (l0.length : Int) 0 Ab Ac
theorem impl_Vec_69.calls (k : Nat) (A0 : Option Addr) (c0 : Nat) (l0 : List (S44)) (Ab : Int) (Ac : Int) (r : Int) (w : World) (hr0 : Kd.C k44 w A0 l0.length l0) (hc0 : l0.length ≤ c0) (h : impl_Vec_69.f k l0 Ab Ac = some r) :
  Calls Tryz.prog 69 #[.slice A0 l0.length c0, .agg #[.int .i64 Ab, .int .i64 Ac]] w fun e w' => e = .returned (.int .i64 r) ∧ Below w.heap.size w w' := by
 have hu44 := Tryz.underlying44
 have HR0 := Aside0.mk hr0
 have Aw := Aside0.mk hc0
 clear hr0 hc0
 have HB := asd (Below.refl w.heap.size w)
 have H : (impl_Vec_69.l0 k l0 (l0.length : Int) 0 Ab Ac) = some r := h
 clear h
 have H' := Aside0.mk H
 clear H
 go_enter Tryz.func69, Tryz.ntmps69
 go_wp2_with (first | ((with_reducible refine gd 3 rfl ?_); refine bx #[.int .i64 Ab, .int .i64 Ac] 44 ?_; intro Ah hg w3 Ad hb; have Ae := ngw0 hg HB; replace HB := bS0 HB hb; clear hb hg))
 repeat (go_quiet (first | ((with_reducible refine gd 3 rfl ?_); refine bx #[.int .i64 Ab, .int .i64 Ac] 44 ?_; intro Ah hg w3 Ad hb; have Ae := ngw0 hg HB; replace HB := bS0 HB hb; clear hb hg)); try go_wp2_with (first | ((with_reducible refine gd 3 rfl ?_); refine bx #[.int .i64 Ab, .int .i64 Ac] 44 ?_; intro Ah hg w3 Ad hb; have Ae := ngw0 hg HB; replace HB := bS0 HB hb; clear hb hg)))
 go_loopg [8] k (fun kq v8 w' => ∃ (Aa : Int), v8 = .int .i64 Aa ∧ Aside0 (impl_Vec_69.l0 kq l0 (l0.length : Int) Aa Ab Ac = some r) ∧ Aside0 (kq ≤ k) ∧ Aside0 (w'.heap[Ah]? = some (.cells #[.int .i64 Ab, .int .i64 Ac] 44 (0, 0))) ∧ Aside0 (Below w.heap.size w w'))
 case atStart => exact ⟨(0), (by first | rfl | (simp; done) | (simp [*]; done)), H', ⟨Nat.le_refl _⟩, ⟨bkp Ad⟩, ⟨bbw1 HB Ae⟩⟩
 case round =>
  clear H'
  obtain ⟨Aa, rfl, HA, As, Ad, HB⟩ := hrel
  cases gk with
  | zero => exact absurd HA.out (by simp [impl_Vec_69.l0])
  | succ k1 =>
   have H := HA.out
   clear HA
   simp only [impl_Vec_69.l0] at H
   by_cases c4 : Aa < (l0.length : Int)
   rw [if_pos c4] at H
   have Ak := decide_eq_true c4
   clear c4
   by_cases c5 : 0 ≤ Aa
   rw [if_pos c5] at H
   have At := decide_eq_true c5
   clear c5
   by_cases c6 : Aa < (l0.length : Int)
   rw [if_pos c6] at H
   have Au := decide_eq_true c6
   clear c6
   by_cases c7 : (Ab == ((rd_T44 l0 Aa).f0) && (Ac == ((rd_T44 l0 Aa).f1))) = true
   rw [if_pos c7] at H
   have Al := c7
   (try (have Am : decide (Ab = ((rd_T44 l0 Aa).f0) && (Ac == ((rd_T44 l0 Aa).f1))) = true := by simpa using c7))
   (try (have An : (Ab == ((rd_T44 l0 Aa).f0) && (Ac == ((rd_T44 l0 Aa).f1))) = true := by simpa using c7))
   clear c7
   obtain rfl := Option.some.inj H
   rotate_left
   rw [if_neg c7] at H
   have Al : (Ab == ((rd_T44 l0 Aa).f0) && (Ac == ((rd_T44 l0 Aa).f1))) = false := by simpa using c7
   (try (have Am : decide (Ab = ((rd_T44 l0 Aa).f0) && (Ac == ((rd_T44 l0 Aa).f1))) = false := by simpa using c7))
   (try (have An : (Ab == ((rd_T44 l0 Aa).f0) && (Ac == ((rd_T44 l0 Aa).f1))) = false := by simpa using c7))
   (try (have Av : ¬ (Ab = ((rd_T44 l0 Aa).f0) && (Ac == ((rd_T44 l0 Aa).f1))) := by simpa using c7))
   clear c7
   have H' := Aside0.mk H
   clear H
   rotate_left
   ·rw [if_neg c6] at H
    exact absurd H (by simp)
   ·rw [if_neg c5] at H
    exact absurd H (by simp)
   rw [if_neg c4] at H
   have Ak := decide_eq_false c4
   clear c4
   obtain rfl := Option.some.inj H
   rotate_left
   rotate_left 2
   ·go_wp2
    repeat (go_quiet (fail); try go_wp2)
    go_ret
    exact er (bbw1 HB Ae)
   all_goals
    obtain ⟨Ao, Ap, Aq, Ar⟩ := bz2 Ad
    obtain ⟨p703, q703, ad703, e703, Ai, Aj⟩ := at_T44x HR0.out HB Aa
    cases e703
    go_wp2
    repeat (go_quiet (fail); try go_wp2)
   ·go_ret
    exact er (bbw1 HB Ae)
   ·go_roundg k1
    case measure => have := As.out; omega
    case rel => exact ⟨(wrap64 (Aa + 1)), (by first | rfl | (simp; done) | (simp [*]; done)), H', ⟨by have := As.out; omega⟩, ⟨bkp Ad⟩, ⟨bbw1 HB Ae⟩⟩
def impl_Vec_37.f (k : Nat) (l0 : List (S44)) (Aa : Int) (Ab : Int) : Option (Bool) := (impl_Vec_69.f k l0 Aa Ab).bind fun Ad => (some (decide (Ad ≥ 0)))
theorem impl_Vec_37.calls (k : Nat) (A0 : Option Addr) (c0 : Nat) (l0 : List (S44)) (Aa : Int) (Ab : Int) (r : Bool) (w : World) (hr0 : Kd.C k44 w A0 l0.length l0) (hc0 : l0.length ≤ c0) (h : impl_Vec_37.f k l0 Aa Ab = some r) :
  Calls Tryz.prog 37 #[.slice A0 l0.length c0, .agg #[.int .i64 Aa, .int .i64 Ab]] w fun e w' => e = .returned (.bool r) ∧ Below w.heap.size w w' := by
 have hu44 := Tryz.underlying44
 have HR0 := Aside0.mk hr0
 have Ak := Aside0.mk hc0
 clear hr0 hc0
 have HB := asd (Below.refl w.heap.size w)
 have H : ((impl_Vec_69.f k l0 Aa Ab).bind fun Ad => (some (decide (Ad ≥ 0)))) = some r := h
 clear h
 obtain ⟨Ad, A3, H⟩ := ob H
 try dsimp only at H
 obtain rfl := Option.some.inj H
 go_enter Tryz.func37, Tryz.ntmps37
 go_wp2_with (first | ((with_reducible refine gd 3 rfl ?_); refine bx #[.int .i64 Aa, .int .i64 Ab] 44 ?_; intro Aj hg w4 Ac hb; have Ae := ngw0 hg HB; replace HB := bS0 HB hb; clear hb hg; obtain ⟨Af, Ag, Ah, Ai⟩ := bz2 Ac) | ((with_reducible refine gate_callee (f := 69) rfl ?_); refine gl 7 Tryz.func69 #[.slice A0 l0.length c0, .agg #[.int .i64 Aa, .int .i64 Ab]] ?_; (with_reducible refine (impl_Vec_69.calls _ _ _ _ _ _ _ _ ?side1 ?side2 A3.out).mono ?_); (case side1 => exact ks (Kd.C_below HR0.out HB.out)); (case side2 => exact Ak.out); rintro e w6 ⟨rfl, hb⟩; refine ⟨_, rfl, ?_⟩; replace Ac := bB Ac hb; replace HB := bS1 HB Ae hb; (try clear hb)))
 go_ret
 exact er (bbw1 HB Ae)
end Go.Proofs.YtfmjboloeabjmaaGreat.PA
