import Derived.Test.YtfmjboloeabjmaaGreatPAx0
import Derived.Test.YtfmjboloeabjmaaGreatPAx5
import Derived.Test.YtfmjboloeabjmaaGreatPAx12
import Derived.Test.YtfmjboloeabjmaaGreatPAx13
import Derived.Test.YtfmjboloeabjmaaGreatPAx17
import Derived.Test.YtfmjboloeabjmaaGreatPAx20
namespace Go.Proofs.YtfmjboloeabjmaaGreat.PA
open Go.RowKit Go.Proofs.YtfmjboloeabjmaaGreatW.PrintWords Go.Proofs.YtfmjboloeabjmaaGreatW.PrintLast Go.Proofs.YtfmjboloeabjmaaGreatW.PrintMore
attribute [local go_sem] max2_int min2_int max_two min_two max_three min_three max_four min_four   -- for this text's walks alone
set_option linter.unusedVariables false
set_option maxHeartbeats 8000000
set_option maxRecDepth 100000
set_option linter.unusedSimpArgs false
def impl_FactsOf.f (k : Nat) (a0 : Int) (Ah : Int) (Ai : Int) (Aj : Int) (l2 : List (S46)) : Option (Int × Int × Int × Int × Bool × Int) := (impl_fixedCode.f k a0 Ah Ai Aj l2).bind fun Ak => (if Ak = 0 then ((impl_factsOf.f k a0 Ah Ai Aj l2).bind fun Ac => (some (Ac.1, Ac.2.1, Ac.2.2.1, Ac.2.2.2.1, Ac.2.2.2.2, 0))) else (some (0, 0, 0, 0, false, Ak)))
theorem impl_FactsOf.calls (k : Nat) (a0 : Int) (Ah : Int) (Ai : Int) (Aj : Int) (A2 : Option Addr) (c2 : Nat) (l2 : List (S46)) (r1 : Int) (r2 : Int) (r3 : Int) (r4 : Int) (r5 : Bool) (r6 : Int) (w : World) (hr2 : Kd.C k46 w A2 l2.length l2) (hc2 : l2.length ≤ c2) (h : impl_FactsOf.f k a0 Ah Ai Aj l2 = some (r1, r2, r3, r4, r5, r6)) :
  Calls Tryz.prog 8 #[.int .i64 a0, .agg #[.int .i64 Ah, .int .i64 Ai, .int .i64 Aj], .slice A2 l2.length c2] w fun e w' => e = .returned (.tuple #[.agg #[.int .i64 r1, .int .i64 r2, .int .i64 r3, .int .i64 r4, .bool r5], .int .i64 r6]) ∧ Below w.heap.size w w' := by
 have hu30 := Tryz.underlying30
 have hu27 := Tryz.underlying27
 have HR2 := Aside0.mk hr2
 have AZ := Aside0.mk hc2
 clear hr2 hc2
 have HB := asd (Below.refl w.heap.size w)
 have H : ((impl_fixedCode.f k a0 Ah Ai Aj l2).bind fun Ak => (if Ak = 0 then ((impl_factsOf.f k a0 Ah Ai Aj l2).bind fun Ac => (some (Ac.1, Ac.2.1, Ac.2.2.1, Ac.2.2.2.1, Ac.2.2.2.2, 0))) else (some (0, 0, 0, 0, false, Ak)))) = some (r1, r2, r3, r4, r5, r6) := h
 clear h
 obtain ⟨Ak, A4, H⟩ := ob H
 try dsimp only at H
 by_cases c5 : Ak = 0
 ·rw [if_pos c5] at H
  have A0 : (Ak == 0) = true := beq_iff_eq.mpr c5
  have A1 : (Ak != 0) = false := bne_eq_false_iff_eq.mpr c5
  clear c5
  obtain ⟨⟨A3, A5, A7, A8, A9⟩, A6, H⟩ := ob H
  try dsimp only at H
  simp only [Option.some.injEq, Prod.mk.injEq] at H
  obtain ⟨rfl, rfl, rfl, rfl, rfl, rfl⟩ := H
  go_enter Tryz.func8, Tryz.ntmps8
  go_wp2_with (first | ((with_reducible refine gd 4 rfl ?_); refine bx #[.int .i64 Ah, .int .i64 Ai, .int .i64 Aj] 30 ?_; intro Am hg w7 Aa hb; have Ab := ngw0 hg HB; replace HB := bS0 HB hb; clear hb hg) | ((with_reducible refine gd 6 rfl ?_); refine bx #[.int .i64 0, .int .i64 0, .int .i64 0, .int .i64 0, .bool false] 27 ?_; intro Al hg w8 Ad hb; have Ag := ngw1 hg HB Ab; replace HB := bS1 HB Ab hb; have Ae := nlt hg Aa; have Af := nsy (nlt hg Aa); replace Aa := bB Aa hb; clear hb hg; have Bc := Ae.out; have Bd := Af.out; obtain ⟨An, Ao, Ap, Aq, Ar, As⟩ := bz3 Aa) | ((with_reducible refine gate_callee (f := 15) rfl ?_); refine gl 12 Tryz.func15 #[.int .i64 a0, .agg #[.int .i64 Ah, .int .i64 Ai, .int .i64 Aj], .slice A2 l2.length c2] ?_; (with_reducible refine (impl_fixedCode.calls _ _ _ _ _ (fun k_ => k_ < w.heap.size) _ _ _ _ _ ?side1 A4.out).mono ?_); (case side1 => exact Kd.V_mk AZ.out (Kd.F_below (Kd.C_F k46_heap HR2.out) (bbw2 HB Ab Ag))); rintro e Be ⟨rfl, hb⟩; refine ⟨_, rfl, ?_⟩; replace Aa := bB Aa hb; replace Ad := bB Ad hb; replace HB := bS2 HB Ab Ag hb; (try clear hb); obtain ⟨At, Au, Av, Aw, Ax, Ay⟩ := bz3 Aa) | ((with_reducible refine gate_callee (f := 16) rfl ?_); refine gl 20 Tryz.func16 #[.int .i64 a0, .agg #[.int .i64 Ah, .int .i64 Ai, .int .i64 Aj], .slice A2 l2.length c2] ?_; (with_reducible refine (impl_factsOf.calls _ _ _ _ _ _ _ _ _ _ _ _ _ _ ?side1 ?side2 A6.out).mono ?_); (case side1 => exact ks (Kd.C_below HR2.out HB.out)); (case side2 => exact AZ.out); rintro e Bf ⟨rfl, hb⟩; refine ⟨_, rfl, ?_⟩; replace Aa := bB Aa hb; replace Ad := bB Ad hb; replace HB := bS2 HB Ab Ag hb; (try clear hb); obtain ⟨Az, AA, AB, AC, AD, AE, AF, AG, AH, AI⟩ := bz5 Ad))
  refine bodyPost_ret (results_ct rfl _ _ Al 27 #[.int .i64 A3, .int .i64 A5, .int .i64 A7, .int .i64 A8, .bool A9] (0, 0) _ rfl (bq0 Ad) Tryz.underlying27 rfl (by kernel_rfl)) rfl ?_
  exact er (bbw2 HB Ab Ag)
 ·rw [if_neg c5] at H
  have A0 : (Ak == 0) = false := beq_eq_false_iff_ne.mpr c5
  have A1 : (Ak != 0) = true := bne_iff_ne.mpr c5
  simp only [Option.some.injEq, Prod.mk.injEq] at H
  obtain ⟨rfl, rfl, rfl, rfl, rfl, rfl⟩ := H
  go_enter Tryz.func8, Tryz.ntmps8
  go_wp2_with (first | ((with_reducible refine gd 4 rfl ?_); refine bx #[.int .i64 Ah, .int .i64 Ai, .int .i64 Aj] 30 ?_; intro Am hg Bg Aa hb; have Ab := ngw0 hg HB; replace HB := bS0 HB hb; clear hb hg) | ((with_reducible refine gd 6 rfl ?_); refine bx #[.int .i64 0, .int .i64 0, .int .i64 0, .int .i64 0, .bool false] 27 ?_; intro Al hg Bh Ad hb; have Ag := ngw1 hg HB Ab; replace HB := bS1 HB Ab hb; have Ae := nlt hg Aa; have Af := nsy (nlt hg Aa); replace Aa := bB Aa hb; clear hb hg; have Ba := Ae.out; have Bb := Af.out; obtain ⟨AJ, AK, AL, AM, AN, AO⟩ := bz3 Aa) | ((with_reducible refine gate_callee (f := 15) rfl ?_); refine gl 12 Tryz.func15 #[.int .i64 a0, .agg #[.int .i64 Ah, .int .i64 Ai, .int .i64 Aj], .slice A2 l2.length c2] ?_; (with_reducible refine (impl_fixedCode.calls _ _ _ _ _ (fun k_ => k_ < w.heap.size) _ _ _ _ _ ?side1 A4.out).mono ?_); (case side1 => exact Kd.V_mk AZ.out (Kd.F_below (Kd.C_F k46_heap HR2.out) (bbw2 HB Ab Ag))); rintro e Bi ⟨rfl, hb⟩; refine ⟨_, rfl, ?_⟩; replace Aa := bB Aa hb; replace Ad := bB Ad hb; replace HB := bS2 HB Ab Ag hb; (try clear hb); obtain ⟨AP, AQ, AR, AS, AT, AU, AV, AW, AX, AY⟩ := bz5 Ad))
  refine bodyPost_ret (results_ct rfl _ _ Al 27 #[.int .i64 0, .int .i64 0, .int .i64 0, .int .i64 0, .bool false] (0, 0) _ rfl (bq0 Ad) Tryz.underlying27 rfl (by kernel_rfl)) rfl ?_
  exact er (bbw2 HB Ab Ag)
def laws_eqFacts.f (Ac : Int) (Ad : Int) (Ae : Int) (Af : Int) (Aa : Bool) (Ag : Int) (Ah : Int) (Ai : Int) (Aj : Int) (Ab : Bool) : Option (Bool) := if Ac = Ag then (if Ad = Ah then (if Ae = Ai then (if Af = Aj then (if (Aa != Ab) = true then (some false) else (some true)) else (some false)) else (some false)) else (some false)) else (some false)
theorem laws_eqFacts.calls (Ac : Int) (Ad : Int) (Ae : Int) (Af : Int) (Aa : Bool) (Ag : Int) (Ah : Int) (Ai : Int) (Aj : Int) (Ab : Bool) (r : Bool) (w : World) (h : laws_eqFacts.f Ac Ad Ae Af Aa Ag Ah Ai Aj Ab = some r) :
  Calls Tryz.prog 9 #[.agg #[.int .i64 Ac, .int .i64 Ad, .int .i64 Ae, .int .i64 Af, .bool Aa], .agg #[.int .i64 Ag, .int .i64 Ah, .int .i64 Ai, .int .i64 Aj, .bool Ab]] w fun e w' => e = .returned (.bool r) ∧ Below w.heap.size w w' := by
 have hu27 := Tryz.underlying27
 have HB := asd (Below.refl w.heap.size w)
 have H : (if Ac = Ag then (if Ad = Ah then (if Ae = Ai then (if Af = Aj then (if (Aa != Ab) = true then (some false) else (some true)) else (some false)) else (some false)) else (some false)) else (some false)) = some r := h
 clear h
 by_cases c3 : Ac = Ag
 rw [if_pos c3] at H
 have AK : (Ac == Ag) = true := beq_iff_eq.mpr c3
 have AL : (Ac != Ag) = false := bne_eq_false_iff_eq.mpr c3
 clear c3
 by_cases c4 : Ad = Ah
 rw [if_pos c4] at H
 have AM : (Ad == Ah) = true := beq_iff_eq.mpr c4
 have AN : (Ad != Ah) = false := bne_eq_false_iff_eq.mpr c4
 clear c4
 by_cases c5 : Ae = Ai
 rw [if_pos c5] at H
 have AO : (Ae == Ai) = true := beq_iff_eq.mpr c5
 have AP : (Ae != Ai) = false := bne_eq_false_iff_eq.mpr c5
 clear c5
 by_cases c6 : Af = Aj
 rw [if_pos c6] at H
 have AQ : (Af == Aj) = true := beq_iff_eq.mpr c6
 have AR : (Af != Aj) = false := bne_eq_false_iff_eq.mpr c6
 clear c6
 by_cases c7 : (Aa != Ab) = true
 rw [if_pos c7] at H
 have AS := c7
 (try (have AT : decide (Aa = Ab) = false := by simpa using c7))
 (try (have AU : (Aa == Ab) = false := by simpa using c7))
 (try (have AZ : ¬ (Aa = Ab) := by simpa using c7))
 clear c7
 obtain rfl := Option.some.inj H
 rotate_left
 rw [if_neg c7] at H
 have AS : (Aa != Ab) = false := by simpa using c7
 (try (have AT : decide (Aa = Ab) = true := by simpa using c7))
 (try (have AU : (Aa == Ab) = true := by simpa using c7))
 clear c7
 obtain rfl := Option.some.inj H
 rotate_left
 rw [if_neg c6] at H
 have AQ : (Af == Aj) = false := beq_eq_false_iff_ne.mpr c6
 have AR : (Af != Aj) = true := bne_iff_ne.mpr c6
 obtain rfl := Option.some.inj H
 rotate_left
 rw [if_neg c5] at H
 have AO : (Ae == Ai) = false := beq_eq_false_iff_ne.mpr c5
 have AP : (Ae != Ai) = true := bne_iff_ne.mpr c5
 obtain rfl := Option.some.inj H
 rotate_left
 rw [if_neg c4] at H
 have AM : (Ad == Ah) = false := beq_eq_false_iff_ne.mpr c4
 have AN : (Ad != Ah) = true := bne_iff_ne.mpr c4
 obtain rfl := Option.some.inj H
 rotate_left
 rw [if_neg c3] at H
 have AK : (Ac == Ag) = false := beq_eq_false_iff_ne.mpr c3
 have AL : (Ac != Ag) = true := bne_iff_ne.mpr c3
 obtain rfl := Option.some.inj H
 rotate_left
 all_goals
  go_enter Tryz.func9, Tryz.ntmps9
  go_wp2_with (first | ((with_reducible refine gd 2 rfl ?_); refine bx #[.int .i64 Ac, .int .i64 Ad, .int .i64 Ae, .int .i64 Af, .bool Aa] 27 ?_; intro AV hg w8 Ak hb; have An := ngw0 hg HB; replace HB := bS0 HB hb; clear hb hg) | ((with_reducible refine gd 3 rfl ?_); refine bx #[.int .i64 Ag, .int .i64 Ah, .int .i64 Ai, .int .i64 Aj, .bool Ab] 27 ?_; intro AW hg w9 Ao hb; have Ap := ngw1 hg HB An; replace HB := bS1 HB An hb; have Al := nlt hg Ak; have Am := nsy (nlt hg Ak); replace Ak := bB Ak hb; clear hb hg; have AX := Al.out; have AY := Am.out; obtain ⟨Aq, Ar, As, At, Au, Av, Aw, Ax, Ay, Az⟩ := bz5 Ak; obtain ⟨AA, AB, AC, AD, AE, AF, AG, AH, AI, AJ⟩ := bz5 Ao))
  go_ret
  exact er (bbw2 HB An Ap)
def laws_eqMat.f (Aa : Int) (Ab : Int) (Ac : Int) (Ad : Int) (Ae : Int) (Af : Int) (Ag : Int) (Ah : Int) : Option (Bool) := if Aa = Ae then (if Ab = Af then (if Ac = Ag then (if Ad = Ah then (some true) else (some false)) else (some false)) else (some false)) else (some false)
theorem laws_eqMat.calls (Aa : Int) (Ab : Int) (Ac : Int) (Ad : Int) (Ae : Int) (Af : Int) (Ag : Int) (Ah : Int) (r : Bool) (w : World) (h : laws_eqMat.f Aa Ab Ac Ad Ae Af Ag Ah = some r) :
  Calls Tryz.prog 41 #[.agg #[.int .i64 Aa, .int .i64 Ab, .int .i64 Ac, .int .i64 Ad], .agg #[.int .i64 Ae, .int .i64 Af, .int .i64 Ag, .int .i64 Ah]] w fun e w' => e = .returned (.bool r) ∧ Below w.heap.size w w' := by
 have hu42 := Tryz.underlying42
 have HB := asd (Below.refl w.heap.size w)
 have H : (if Aa = Ae then (if Ab = Af then (if Ac = Ag then (if Ad = Ah then (some true) else (some false)) else (some false)) else (some false)) else (some false)) = some r := h
 clear h
 by_cases c3 : Aa = Ae
 rw [if_pos c3] at H
 have AE : (Aa == Ae) = true := beq_iff_eq.mpr c3
 have AF : (Aa != Ae) = false := bne_eq_false_iff_eq.mpr c3
 clear c3
 by_cases c4 : Ab = Af
 rw [if_pos c4] at H
 have AG : (Ab == Af) = true := beq_iff_eq.mpr c4
 have AH : (Ab != Af) = false := bne_eq_false_iff_eq.mpr c4
 clear c4
 by_cases c5 : Ac = Ag
 rw [if_pos c5] at H
 have AI : (Ac == Ag) = true := beq_iff_eq.mpr c5
 have AJ : (Ac != Ag) = false := bne_eq_false_iff_eq.mpr c5
 clear c5
 by_cases c6 : Ad = Ah
 rw [if_pos c6] at H
 have AK : (Ad == Ah) = true := beq_iff_eq.mpr c6
 have AL : (Ad != Ah) = false := bne_eq_false_iff_eq.mpr c6
 clear c6
 obtain rfl := Option.some.inj H
 rotate_left
 rw [if_neg c6] at H
 have AK : (Ad == Ah) = false := beq_eq_false_iff_ne.mpr c6
 have AL : (Ad != Ah) = true := bne_iff_ne.mpr c6
 obtain rfl := Option.some.inj H
 rotate_left
 rw [if_neg c5] at H
 have AI : (Ac == Ag) = false := beq_eq_false_iff_ne.mpr c5
 have AJ : (Ac != Ag) = true := bne_iff_ne.mpr c5
 obtain rfl := Option.some.inj H
 rotate_left
 rw [if_neg c4] at H
 have AG : (Ab == Af) = false := beq_eq_false_iff_ne.mpr c4
 have AH : (Ab != Af) = true := bne_iff_ne.mpr c4
 obtain rfl := Option.some.inj H
 rotate_left
 rw [if_neg c3] at H
 have AE : (Aa == Ae) = false := beq_eq_false_iff_ne.mpr c3
 have AF : (Aa != Ae) = true := bne_iff_ne.mpr c3
 obtain rfl := Option.some.inj H
 rotate_left
 all_goals
  go_enter Tryz.func41, Tryz.ntmps41
  go_wp2_with (first | ((with_reducible refine gd 2 rfl ?_); refine bx #[.int .i64 Aa, .int .i64 Ab, .int .i64 Ac, .int .i64 Ad] 42 ?_; intro AM hg w7 Ai hb; have Al := ngw0 hg HB; replace HB := bS0 HB hb; clear hb hg) | ((with_reducible refine gd 3 rfl ?_); refine bx #[.int .i64 Ae, .int .i64 Af, .int .i64 Ag, .int .i64 Ah] 42 ?_; intro AN hg w8 Am hb; have An := ngw1 hg HB Al; replace HB := bS1 HB Al hb; have Aj := nlt hg Ai; have Ak := nsy (nlt hg Ai); replace Ai := bB Ai hb; clear hb hg; have AO := Aj.out; have AP := Ak.out; obtain ⟨Ao, Ap, Aq, Ar, As, At, Au, Av⟩ := bz4 Ai; obtain ⟨Aw, Ax, Ay, Az, AA, AB, AC, AD⟩ := bz4 Am))
  go_ret
  exact er (bbw2 HB Al An)
def laws_eqVec.f (Aa : Int) (Ab : Int) (Ac : Int) (Ad : Int) : Option (Bool) := if Aa = Ac then (if Ab = Ad then (some true) else (some false)) else (some false)
theorem laws_eqVec.calls (Aa : Int) (Ab : Int) (Ac : Int) (Ad : Int) (r : Bool) (w : World) (h : laws_eqVec.f Aa Ab Ac Ad = some r) :
  Calls Tryz.prog 42 #[.agg #[.int .i64 Aa, .int .i64 Ab], .agg #[.int .i64 Ac, .int .i64 Ad]] w fun e w' => e = .returned (.bool r) ∧ Below w.heap.size w w' := by
 have hu44 := Tryz.underlying44
 have HB := asd (Below.refl w.heap.size w)
 have H : (if Aa = Ac then (if Ab = Ad then (some true) else (some false)) else (some false)) = some r := h
 clear h
 by_cases c3 : Aa = Ac
 rw [if_pos c3] at H
 have Ak : (Aa == Ac) = true := beq_iff_eq.mpr c3
 have Al : (Aa != Ac) = false := bne_eq_false_iff_eq.mpr c3
 clear c3
 by_cases c4 : Ab = Ad
 rw [if_pos c4] at H
 have Am : (Ab == Ad) = true := beq_iff_eq.mpr c4
 have An : (Ab != Ad) = false := bne_eq_false_iff_eq.mpr c4
 clear c4
 obtain rfl := Option.some.inj H
 rotate_left
 rw [if_neg c4] at H
 have Am : (Ab == Ad) = false := beq_eq_false_iff_ne.mpr c4
 have An : (Ab != Ad) = true := bne_iff_ne.mpr c4
 obtain rfl := Option.some.inj H
 rotate_left
 rw [if_neg c3] at H
 have Ak : (Aa == Ac) = false := beq_eq_false_iff_ne.mpr c3
 have Al : (Aa != Ac) = true := bne_iff_ne.mpr c3
 obtain rfl := Option.some.inj H
 rotate_left
 all_goals
  go_enter Tryz.func42, Tryz.ntmps42
  go_wp2_with (first | ((with_reducible refine gd 2 rfl ?_); refine bx #[.int .i64 Aa, .int .i64 Ab] 44 ?_; intro Aw hg w5 Ae hb; have Ah := ngw0 hg HB; replace HB := bS0 HB hb; clear hb hg) | ((with_reducible refine gd 3 rfl ?_); refine bx #[.int .i64 Ac, .int .i64 Ad] 44 ?_; intro Ax hg w6 Ai hb; have Aj := ngw1 hg HB Ah; replace HB := bS1 HB Ah hb; have Af := nlt hg Ae; have Ag := nsy (nlt hg Ae); replace Ae := bB Ae hb; clear hb hg; have Ay := Af.out; have Az := Ag.out; obtain ⟨Ao, Ap, Aq, Ar⟩ := bz2 Ae; obtain ⟨As, At, Au, Av⟩ := bz2 Ai))
  go_ret
  exact er (bbw2 HB Ah Aj)
def laws_eqMotion.f (Ag : Int) (Ah : Int) (Ai : Int) (Aj : Int) (Ao : Int) (Ap : Int) (Ak : Int) (Al : Int) (Am : Int) (An : Int) (Aq : Int) (Ar : Int) : Option (Bool) := (laws_eqMat.f Ag Ah Ai Aj Ak Al Am An).bind fun As => (if As = true then ((laws_eqVec.f Ao Ap Aq Ar).bind fun At => (if At = true then (some true) else (some false))) else (some false))
theorem laws_eqMotion.calls (Ag : Int) (Ah : Int) (Ai : Int) (Aj : Int) (Ao : Int) (Ap : Int) (Ak : Int) (Al : Int) (Am : Int) (An : Int) (Aq : Int) (Ar : Int) (r : Bool) (w : World) (h : laws_eqMotion.f Ag Ah Ai Aj Ao Ap Ak Al Am An Aq Ar = some r) :
  Calls Tryz.prog 17 #[.agg #[.int .i64 Ag, .int .i64 Ah, .int .i64 Ai, .int .i64 Aj, .int .i64 Ao, .int .i64 Ap], .agg #[.int .i64 Ak, .int .i64 Al, .int .i64 Am, .int .i64 An, .int .i64 Aq, .int .i64 Ar]] w fun e w' => e = .returned (.bool r) ∧ Below w.heap.size w w' := by
 have hu46 := Tryz.underlying46
 have hu42 := Tryz.underlying42
 have hu44 := Tryz.underlying44
 have HB := asd (Below.refl w.heap.size w)
 have H : ((laws_eqMat.f Ag Ah Ai Aj Ak Al Am An).bind fun As => (if As = true then ((laws_eqVec.f Ao Ap Aq Ar).bind fun At => (if At = true then (some true) else (some false))) else (some false))) = some r := h
 clear h
 obtain ⟨As, A3, H⟩ := ob H
 try dsimp only at H
 by_cases c4 : As = true
 subst c4
 replace H := ifT H
 obtain ⟨At, A5, H⟩ := ob H
 try dsimp only at H
 by_cases c6 : At = true
 subst c6
 replace H := ifT H
 obtain rfl := Option.some.inj H
 rotate_left
 replace c6 := Bool.eq_false_iff.mpr c6
 subst c6
 replace H := ifF H
 obtain rfl := Option.some.inj H
 rotate_left
 replace c4 := Bool.eq_false_iff.mpr c4
 subst c4
 replace H := ifF H
 obtain rfl := Option.some.inj H
 rotate_left
 all_goals
  go_enter Tryz.func17, Tryz.ntmps17
 rotate_left 2
 ·go_wp2_with (first | ((with_reducible refine gd 2 rfl ?_); refine bx #[.int .i64 Ag, .int .i64 Ah, .int .i64 Ai, .int .i64 Aj, .int .i64 Ao, .int .i64 Ap] 46 ?_; intro Au hg BM Aa hb; have Ab := ngw0 hg HB; replace HB := bS0 HB hb; clear hb hg) | ((with_reducible refine gd 3 rfl ?_); refine bx #[.int .i64 Ak, .int .i64 Al, .int .i64 Am, .int .i64 An, .int .i64 Aq, .int .i64 Ar] 46 ?_; intro Av hg BN Ac hb; have Af := ngw1 hg HB Ab; replace HB := bS1 HB Ab hb; have Ad := nlt hg Aa; have Ae := nsy (nlt hg Aa); replace Aa := bB Aa hb; clear hb hg; have BI := Ad.out; have BJ := Ae.out; obtain ⟨Aw, Ax, Ay, Az, AA, AB, AC, AD, AE, AF, AG, AH⟩ := bz6 Aa; obtain ⟨AI, AJ, AK, AL, AM, AN, AO, AP, AQ, AR, AS, AT⟩ := bz6 Ac) | ((with_reducible refine gate_callee (f := 41) rfl ?_); refine gl 9 Tryz.func41 #[.agg #[.int .i64 Ag, .int .i64 Ah, .int .i64 Ai, .int .i64 Aj], .agg #[.int .i64 Ak, .int .i64 Al, .int .i64 Am, .int .i64 An]] ?_; (with_reducible refine (laws_eqMat.calls _ _ _ _ _ _ _ _ _ _ A3.out).mono ?_); rintro e BO ⟨rfl, hb⟩; refine ⟨_, rfl, ?_⟩; replace Aa := bB Aa hb; replace Ac := bB Ac hb; replace HB := bS2 HB Ab Af hb; (try clear hb)))
  go_ret
  exact er (bbw2 HB Ab Af)
 all_goals
  go_wp2_with (first | ((with_reducible refine gd 2 rfl ?_); refine bx #[.int .i64 Ag, .int .i64 Ah, .int .i64 Ai, .int .i64 Aj, .int .i64 Ao, .int .i64 Ap] 46 ?_; intro Au hg w7 Aa hb; have Ab := ngw0 hg HB; replace HB := bS0 HB hb; clear hb hg) | ((with_reducible refine gd 3 rfl ?_); refine bx #[.int .i64 Ak, .int .i64 Al, .int .i64 Am, .int .i64 An, .int .i64 Aq, .int .i64 Ar] 46 ?_; intro Av hg w8 Ac hb; have Af := ngw1 hg HB Ab; replace HB := bS1 HB Ab hb; have Ad := nlt hg Aa; have Ae := nsy (nlt hg Aa); replace Aa := bB Aa hb; clear hb hg; have BK := Ad.out; have BL := Ae.out; obtain ⟨AU, AV, AW, AX, AY, AZ, A0, A1, A2, A4, A6, A7⟩ := bz6 Aa; obtain ⟨A8, A9, Ba, Bb, Bc, Bd, Be, Bf, Bg, Bh, Bi, Bj⟩ := bz6 Ac) | ((with_reducible refine gate_callee (f := 41) rfl ?_); refine gl 9 Tryz.func41 #[.agg #[.int .i64 Ag, .int .i64 Ah, .int .i64 Ai, .int .i64 Aj], .agg #[.int .i64 Ak, .int .i64 Al, .int .i64 Am, .int .i64 An]] ?_; (with_reducible refine (laws_eqMat.calls _ _ _ _ _ _ _ _ _ _ A3.out).mono ?_); rintro e w12 ⟨rfl, hb⟩; refine ⟨_, rfl, ?_⟩; replace Aa := bB Aa hb; replace Ac := bB Ac hb; replace HB := bS2 HB Ab Af hb; (try clear hb); obtain ⟨Bk, Bl, Bm, Bn, Bo, Bp, Bq, Br, Bs, Bt, Bu, Bv⟩ := bz6 Aa; obtain ⟨Bw, Bx, By, Bz, BA, BB, BC, BD, BE, BF, BG, BH⟩ := bz6 Ac) | ((with_reducible refine gate_callee (f := 42) rfl ?_); refine gl 15 Tryz.func42 #[.agg #[.int .i64 Ao, .int .i64 Ap], .agg #[.int .i64 Aq, .int .i64 Ar]] ?_; (with_reducible refine (laws_eqVec.calls _ _ _ _ _ _ A5.out).mono ?_); rintro e BP ⟨rfl, hb⟩; refine ⟨_, rfl, ?_⟩; replace Aa := bB Aa hb; replace Ac := bB Ac hb; replace HB := bS2 HB Ab Af hb; (try clear hb)))
  go_ret
  exact er (bbw2 HB Ab Af)
def laws_eqMotionS.l0 : Nat → List (S46) → List (S46) → Int → Option (Bool)
 | 0, _, _, _ => none
 | k + 1, x0, x1, x5 => if x5 < (x0.length : Int) then (if 0 ≤ x5 then (if x5 < (x1.length : Int) then ((laws_eqMotion.f ((rd_T46 x0 x5).f0.f0) ((rd_T46 x0 x5).f0.f1) ((rd_T46 x0 x5).f0.f2) ((rd_T46 x0 x5).f0.f3) ((rd_T46 x0 x5).f1.f0) ((rd_T46 x0 x5).f1.f1) ((rd_T46 x1 x5).f0.f0) ((rd_T46 x1 x5).f0.f1) ((rd_T46 x1 x5).f0.f2) ((rd_T46 x1 x5).f0.f3) ((rd_T46 x1 x5).f1.f0) ((rd_T46 x1 x5).f1.f1)).bind fun Az => (if Az = true then (laws_eqMotionS.l0 k x0 x1 (wrap64 (x5 + 1))) else (some false))) else (none)) else (none)) else (some true)
def laws_eqMotionS.f (k : Nat) (l0 : List (S46)) (l1 : List (S46)) : Option (Bool) := if (l0.length : Int) = (l1.length : Int) then (laws_eqMotionS.l0 k l0 l1 0) else (some false)
def laws_eqMotionS.T6 : Bool × List (List Nat × List Nat) := (true, [([], []), ([], []), ([0, 1], [0, 1]), ([2], [2]), ([], []), ([], []), ([4, 5], [4, 5]), ([6], [6]), ([3, 7], [3, 7]), ([8], [8])])
def laws_eqMotionS.B6 : List Nat := [0, 0, 3, 7, 0, 0, 48, 112, 255, 511]
theorem laws_eqMotionS.tab6 : rtab .any (opsOf Tryz.f10 6) = laws_eqMotionS.T6 := by kernel_rfl
theorem laws_eqMotionS.bits6 : waitsOk laws_eqMotionS.T6.2 laws_eqMotionS.B6 = true := by kernel_rfl
theorem laws_eqMotionS.calls (k : Nat) (A0 : Option Addr) (c0 : Nat) (l0 : List (S46)) (A1 : Option Addr) (c1 : Nat) (l1 : List (S46)) (r : Bool) (w : World) (hr0 : Kd.C k46 w A0 l0.length l0) (hc0 : l0.length ≤ c0) (hr1 : Kd.C k46 w A1 l1.length l1) (hc1 : l1.length ≤ c1) (h : laws_eqMotionS.f k l0 l1 = some r) :
  Calls Tryz.prog 10 #[.slice A0 l0.length c0, .slice A1 l1.length c1] w fun e w' => e = .returned (.bool r) ∧ Below w.heap.size w w' := by
 have hu46 := Tryz.underlying46
 have HR0 := Aside0.mk hr0
 have AH := Aside0.mk hc0
 clear hr0 hc0
 have HR1 := Aside0.mk hr1
 have AI := Aside0.mk hc1
 clear hr1 hc1
 have HB := asd (Below.refl w.heap.size w)
 have H : (if (l0.length : Int) = (l1.length : Int) then (laws_eqMotionS.l0 k l0 l1 0) else (some false)) = some r := h
 clear h
 by_cases c3 : (l0.length : Int) = (l1.length : Int)
 ·rw [if_pos c3] at H
  have AA : ((l0.length : Int) == (l1.length : Int)) = true := beq_iff_eq.mpr c3
  have AB : ((l0.length : Int) != (l1.length : Int)) = false := bne_eq_false_iff_eq.mpr c3
  have AC : (l0.length == l1.length) = true := by first | simpa using c3 | (simp at c3 ⊢; omega)
  clear c3
  have H' := Aside0.mk H
  clear H
  go_enter Tryz.func10, Tryz.ntmps10
  go_wp2
  go_loopg [5] k (fun kq v5 w' => ∃ (Aa : Int), v5 = .int .i64 Aa ∧ Aside0 (laws_eqMotionS.l0 kq l0 l1 Aa = some r) ∧ Aside0 (kq ≤ k) ∧ Aside0 (Below w.heap.size w w'))
  case atStart => exact ⟨(0), (by first | rfl | (simp; done) | (simp [*]; done)), H', ⟨Nat.le_refl _⟩, ⟨bbw0 HB⟩⟩
  case round =>
   clear H'
   try clear c1
   try clear c3
   try clear AA
   try clear AB
   try clear AC
   obtain ⟨Aa, rfl, HA, AE, HB⟩ := hrel
   cases gk with
   | zero => exact absurd HA.out (by simp [laws_eqMotionS.l0])
   | succ k1 =>
    have H := HA.out
    clear HA
    simp only [laws_eqMotionS.l0] at H
    by_cases c4 : Aa < (l0.length : Int)
    rw [if_pos c4] at H
    have AD := decide_eq_true c4
    clear c4
    by_cases c5 : 0 ≤ Aa
    rw [if_pos c5] at H
    have AF := decide_eq_true c5
    clear c5
    by_cases c6 : Aa < (l1.length : Int)
    rw [if_pos c6] at H
    have AG := decide_eq_true c6
    clear c6
    obtain ⟨Az, A7, H⟩ := ob H
    try dsimp only at H
    by_cases c8 : Az = true
    subst c8
    replace H := ifT H
    have H' := Aside0.mk H
    clear H
    rotate_left
    replace c8 := Bool.eq_false_iff.mpr c8
    subst c8
    replace H := ifF H
    obtain rfl := Option.some.inj H
    rotate_left
    ·rw [if_neg c6] at H
     exact absurd H (by simp)
    ·rw [if_neg c5] at H
     exact absurd H (by simp)
    rw [if_neg c4] at H
    have AD := decide_eq_false c4
    clear c4
    obtain rfl := Option.some.inj H
    rotate_left
    rotate_left 2
    ·go_wp2
     go_ret
     exact er (bbw0 HB)
    all_goals
     try go_wp2
     replace HB := asd (below_drew1 HB.out)
     obtain ⟨p789, q789, ad789, e789, Ab, Ac, Ad, Ae, Af, Ag, An, Ao, Ap, Aq, Ar, As⟩ := at_T46w HR0.out HB Aa
     cases e789
     obtain ⟨p790, q790, ad790, e790, Ah, Ai, Aj, Ak, Al, Am, At, Au, Av, Aw, Ax, Ay⟩ := at_T46w HR1.out HB Aa
     cases e790
     refine sh 10 (cx6 HB Ab Ac Ad Ae Af Ag (ex6 HB Ah Ai Aj Ak Al Am)) (fun hHeld => ?_); refine with_tabW laws_eqMotionS.tab6 laws_eqMotionS.bits6 (fun HT_ HW_ => ?_)
     generalize wr.drew = w9 at HB An Ao Ap Aq Ar As At Au Av Aw Ax Ay hHeld ⊢
     refine pu 0 (some 17) (bT 10 1) HT_ ?_
     refine pu 1 (some 18) (bT 10 2) HT_ ?_
     refine pu 2 (some 19) (bT 10 3) HT_ ?_
     refine pu 4 (some 21) (bs 10 23) HT_ ?_
     refine pu 5 (some 22) (bs 10 55) HT_ ?_
     refine pu 6 (some 23) (bs 10 119) HT_ ?_
     refine ta 3 (some 20) (bT 10 7) HT_ HW_ hHeld ?_
     refine ta 7 (some 24) (bT 10 8) HT_ HW_ hHeld ?_
     refine ro 8 (some 25) (bT 10 9) HT_ (fun K hK => ?_)
     refine gs Tryz.func17 #[.agg #[.int .i64 ((rd_T46 l0 Aa).f0.f0), .int .i64 ((rd_T46 l0 Aa).f0.f1), .int .i64 ((rd_T46 l0 Aa).f0.f2), .int .i64 ((rd_T46 l0 Aa).f0.f3), .int .i64 ((rd_T46 l0 Aa).f1.f0), .int .i64 ((rd_T46 l0 Aa).f1.f1)], .agg #[.int .i64 ((rd_T46 l1 Aa).f0.f0), .int .i64 ((rd_T46 l1 Aa).f0.f1), .int .i64 ((rd_T46 l1 Aa).f0.f2), .int .i64 ((rd_T46 l1 Aa).f0.f3), .int .i64 ((rd_T46 l1 Aa).f1.f0), .int .i64 ((rd_T46 l1 Aa).f1.f1)]] ?_
     with_reducible refine (laws_eqMotion.calls _ _ _ _ _ _ _ _ _ _ _ _ _ _ A7.out).mono ?_
     rintro e AJ ⟨rfl, hb⟩
     refine ⟨_, rfl, ?_⟩
     replace HB := bS0 HB hb
     (try clear hb)
     (try clear hb2)
     (try clear hk)
     (try clear hi)
     refine hK.out _ _ (cx6 HB Ab Ac Ad Ae Af Ag (ex6 HB Ah Ai Aj Ak Al Am)).out (fun hHeld => ?_)
     clear hK K
     refine norm_ (a' := ?_) ?_ ?_
     rotate_left
     ·show Act.put _ (some 25) _ = _
      simp only [Act.put, sA, sB, sC, i64_w, i32_w]
      rfl
     refine pu 9 (some 26) (bT 10 10) HT_ ?_
     refine done_ (done_of HT_.out (by kernel_rfl)) ?_
     try go_wp2
    ·go_roundg k1
     case measure => have := AE.out; omega
     case rel => exact ⟨(wrap64 (Aa + 1)), (by first | rfl | (simp; done) | (simp [*]; done)), H', ⟨by have := AE.out; omega⟩, ⟨bbw0 HB⟩⟩
    ·go_ret
     exact er (bbw0 HB)
 ·rw [if_neg c3] at H
  have AA : ((l0.length : Int) == (l1.length : Int)) = false := beq_eq_false_iff_ne.mpr c3
  have AB : ((l0.length : Int) != (l1.length : Int)) = true := bne_iff_ne.mpr c3
  have AC : (l0.length == l1.length) = false := by first | simpa using c3 | (simp at c3 ⊢; omega)
  obtain rfl := Option.some.inj H
  go_enter Tryz.func10, Tryz.ntmps10
  go_wp2
  go_ret
  exact er (bbw0 HB)
def laws_FnExactFactsOf.j0 : Nat → List (S51) → List (S46) → Bool → Option (Bool)
 | 0, _, _, _ => none
 | k + 1, x2, Cn, Co => if Co = true then (some false) else ((laws_toMotionS.f k x2).bind fun BH => ((laws_eqMotionS.f k Cn BH).bind fun BI => (if BI = true then (some true) else (some false))))
def laws_FnExactFactsOf.f (k : Nat) (a0 : Int) (Ah : Int) (Ai : Int) (Aj : Int) (l2 : List (S51)) : Option (Bool) := (laws_szMotionS.f l2 1048576).bind fun AA => (if AA < 0 then (some true) else ((laws_toLattice.f Ah Ai Aj).bind fun Ar => ((laws_toMotionS.f k l2).bind fun AB => ((spec_FactsOf.f k a0 Ar.1 Ar.2.1 Ar.2.2 AB).bind fun Ae => ((laws_toMotionS.f k l2).bind fun Am => ((laws_toLattice.f Ah Ai Aj).bind fun As => ((impl_FactsOf.f k a0 As.1 As.2.1 As.2.2 Am).bind fun Af => ((laws_eqFacts.f Af.1 Af.2.1 Af.2.2.1 Af.2.2.2.1 Af.2.2.2.2.1 Ae.1 Ae.2.1 Ae.2.2.1 Ae.2.2.2.1 Ae.2.2.2.2.1).bind fun AC => (if AC = true then (laws_FnExactFactsOf.j0 k l2 Am (Af.2.2.2.2.2 != Ae.2.2.2.2.2)) else (laws_FnExactFactsOf.j0 k l2 Am true))))))))))
theorem laws_FnExactFactsOf.j0_dead (k : Nat) (a0 : List (S51)) (a1 : List (S46)) : laws_FnExactFactsOf.j0 k a0 a1 true ≠ some true := by
 cases k <;> simp [laws_FnExactFactsOf.j0]
theorem laws_FnExactFactsOf.calls (k : Nat) (a0 : Int) (Ah : Int) (Ai : Int) (Aj : Int) (A2 : Option Addr) (c2 : Nat) (l2 : List (S51)) (w : World) (hr2 : Kd.C k51 w A2 l2.length l2) (hc2 : l2.length ≤ c2) (h : laws_FnExactFactsOf.f k a0 Ah Ai Aj l2 = some true) :
  Calls Tryz.prog 3 #[.int .i64 a0, .agg #[.int .i64 Ah, .int .i64 Ai, .int .i64 Aj], .slice A2 l2.length c2] w fun e w' => e = .returned (.bool true) ∧ Below w.heap.size w w' := by
 have hu23 := Tryz.underlying23
 have hu27 := Tryz.underlying27
 have HR2 := Aside0.mk hr2
 have BP := Aside0.mk hc2
 clear hr2 hc2
 have HB := asd (Below.refl w.heap.size w)
 have H : ((laws_szMotionS.f l2 1048576).bind fun AA => (if AA < 0 then (some true) else ((laws_toLattice.f Ah Ai Aj).bind fun Ar => ((laws_toMotionS.f k l2).bind fun AB => ((spec_FactsOf.f k a0 Ar.1 Ar.2.1 Ar.2.2 AB).bind fun Ae => ((laws_toMotionS.f k l2).bind fun Am => ((laws_toLattice.f Ah Ai Aj).bind fun As => ((impl_FactsOf.f k a0 As.1 As.2.1 As.2.2 Am).bind fun Af => ((laws_eqFacts.f Af.1 Af.2.1 Af.2.2.1 Af.2.2.2.1 Af.2.2.2.2.1 Ae.1 Ae.2.1 Ae.2.2.1 Ae.2.2.2.1 Ae.2.2.2.2.1).bind fun AC => (if AC = true then (laws_FnExactFactsOf.j0 k l2 Am (Af.2.2.2.2.2 != Ae.2.2.2.2.2)) else (laws_FnExactFactsOf.j0 k l2 Am true))))))))))) = some true := h
 clear h
 obtain ⟨AA, A4, H⟩ := ob H
 try dsimp only at H
 by_cases c5 : AA < 0
 ·rw [if_pos c5] at H
  have BQ := decide_eq_true c5
  clear c5
  clear H
  go_enter Tryz.func3, Tryz.ntmps3
  go_wp2_with (first | ((with_reducible refine gd 4 rfl ?_); refine bx #[.int .i64 Ah, .int .i64 Ai, .int .i64 Aj] 23 ?_; intro Aq hg w6 Aa hb; have Ab := ngw0 hg HB; replace HB := bS0 HB hb; clear hb hg) | ((with_reducible refine gate_callee (f := 4) rfl ?_); refine gl 15 Tryz.func4 #[.slice A2 l2.length c2, .int .i64 1048576] ?_; (with_reducible refine (laws_szMotionS.calls _ _ _ _ _ _ ?side1 ?side2 A4.out).mono ?_); (case side1 => exact ks (Kd.C_below HR2.out HB.out)); (case side2 => exact BP.out); rintro e w' ⟨rfl, ⟨nd, rfl⟩⟩; refine ⟨_, rfl, ?_⟩))
  go_ret
  exact er (bbw1 HB Ab)
 ·rw [if_neg c5] at H
  have BQ := decide_eq_false c5
  clear c5
  obtain ⟨⟨BU, BV, BW⟩, A7, H⟩ := ob H
  try dsimp only at H
  obtain ⟨AB, A8, H⟩ := ob H
  try dsimp only at H
  obtain ⟨⟨AF, AG, AH, AI, AJ, BX⟩, A9, H⟩ := ob H
  try dsimp only at H
  obtain ⟨Am, Cp, H⟩ := ob H
  try dsimp only at H
  obtain ⟨⟨BY, BZ, B0⟩, Cq, H⟩ := ob H
  try dsimp only at H
  obtain ⟨⟨BJ, BK, BL, BM, BN, B3⟩, Cr, H⟩ := ob H
  try dsimp only at H
  have BO := Aside0.mk H
  clear H
  go_enter Tryz.func3, Tryz.ntmps3
  go_upto_region 8 with (first | ((with_reducible refine gd 4 rfl ?_); refine bx #[.int .i64 Ah, .int .i64 Ai, .int .i64 Aj] 23 ?_; intro Aq hg BF Aa hb; have Ab := ngw0 hg HB; replace HB := bS0 HB hb; clear hb hg) | ((with_reducible refine gate_callee (f := 4) rfl ?_); refine gl 15 Tryz.func4 #[.slice A2 l2.length c2, .int .i64 1048576] ?_; (with_reducible refine (laws_szMotionS.calls _ _ _ _ _ _ ?side1 ?side2 A4.out).mono ?_); (case side1 => exact ks (Kd.C_below HR2.out HB.out)); (case side2 => exact BP.out); rintro e w' ⟨rfl, ⟨nd, rfl⟩⟩; refine ⟨_, rfl, ?_⟩; (try (rw [drewN_self BF]; generalize hq_ : World.drewN BF _ = BF; have B8 : Aside0 (BF.heap[Aq]? = some (.cells #[.int .i64 Ah, .int .i64 Ai, .int .i64 Aj] 23 (0, 0))) := ⟨by rw [← hq_]; exact (bkp Aa)⟩; have Ca : Aside0 (Below w.heap.size w BF) := ⟨by rw [← hq_]; exact (bbw1 HB Ab)⟩; clear Aa HB hq_; have Aa := B8; have HB := Ca; clear B8 Ca)); have AK : BF.cell? ⟨Aq, 0, none⟩ = some (.int .i64 Ah) := bcl Aa 0; have AL : BF.cell? ⟨Aq, 1, none⟩ = some (.int .i64 Ai) := bcl Aa 1; have AM : BF.cell? ⟨Aq, 2, none⟩ = some (.int .i64 Aj) := bcl Aa 2; have AN := blk_frozen Aa.out 0; have AO := blk_frozen Aa.out 1; have AP := blk_frozen Aa.out 2) | ((with_reducible refine gate_callee (f := 6) rfl ?_); refine gl 21 Tryz.func6 #[.agg #[.int .i64 Ah, .int .i64 Ai, .int .i64 Aj]] ?_; (with_reducible refine (laws_toLattice.calls _ _ _ _ _ _ _ A7.out).mono ?_); rintro e Cx ⟨rfl, hb⟩; refine ⟨_, rfl, ?_⟩; replace Aa := bB Aa hb; replace HB := bS1 HB Ab hb; (try clear hb)) | ((with_reducible refine gate_callee (f := 7) rfl ?_); refine gl 23 Tryz.func7 #[.slice A2 l2.length c2] ?_; (with_reducible refine (laws_toMotionS.calls _ _ _ _ _ _ ?side1 ?side2 A8.out).mono ?_); (case side1 => exact ks (Kd.C_below HR2.out HB.out)); (case side2 => exact BP.out); rintro e Cy ⟨v798, rfl, AE, hb⟩; refine ⟨_, rfl, ?_⟩; have Ad := asd (Kd.R_lower AE (bsz1 HB Ab)); replace Aa := bB Aa hb; replace HB := bS1 HB Ab hb; (try clear hb); (try clear hb2); (try clear hk); (try clear hi); (try clear AE); obtain ⟨Ao18, co18, eo18⟩ := Kd.R_slice Ad.out; subst eo18) | ((with_reducible refine gate_callee (f := 5) rfl ?_); refine gl 24 Tryz.func5 #[.int .i64 a0, .agg #[.int .i64 BU, .int .i64 BV, .int .i64 BW], .slice Ao18 AB.length co18] ?_; (with_reducible refine (spec_FactsOf.calls _ _ _ _ _ _ _ _ _ _ _ _ _ _ _ ?side1 ?side2 A9.out).mono ?_); (case side1 => exact ks (Kd.R_reads' Ad.out).2.2); (case side2 => exact (Kd.R_reads' Ad.out).2.1); rintro e Cz ⟨rfl, hb⟩; refine ⟨_, rfl, ?_⟩; replace Ad := asd (Kd.R_below (kr Ad) hb); replace Aa := bB Aa hb; replace HB := bS1 HB Ab hb; (try clear hb)) | ((with_reducible refine gd 8 rfl ?_); refine bx #[.int .i64 0, .int .i64 0, .int .i64 0, .int .i64 0, .bool false] 27 ?_; intro AD hg CA Ac hb; replace Ad := asd (Kd.R_below (kr Ad) hb); have Ag := ngw1 hg HB Ab; replace HB := bS1 HB Ab hb; have An := nlt hg Aa; have Au := nsy (nlt hg Aa); replace Aa := bB Aa hb; clear hb hg; have Cb := Au.out; have Cc := An.out; obtain ⟨AQ, AR, AS, AT, AU, AV, AW, AX, AY, AZ⟩ := bz5 Ac) | ((with_reducible refine gate_callee (f := 7) rfl ?_); refine gl 28 Tryz.func7 #[.slice A2 l2.length c2] ?_; (with_reducible refine (laws_toMotionS.calls _ _ _ _ _ _ ?side1 ?side2 Cp.out).mono ?_); (case side1 => exact Kd.C_below HR2.out (bbw2 HB Ab Ag)); (case side2 => exact BP.out); rintro e CB ⟨v808, rfl, AE, hb⟩; refine ⟨_, rfl, ?_⟩; have Ak := asd (Kd.R_lower (Kd.R_new' AE (Kd.R_lt (by (with_reducible repeat (first | apply Kd.R_alloc | apply Kd.R_drewN | apply Kd.R_drew)); exact (Kd.R_mono (rw5 (Kd.R_types Ad.out Ac.out (by decide))) (fun _ h_ => h_.1))))) (bsz2 HB Ab Ag)); replace Ad := asd (Kd.R_elder' (by (with_reducible repeat (first | apply Kd.R_alloc | apply Kd.R_drewN | apply Kd.R_drew)); exact (Kd.R_mono (rw5 (Kd.R_types Ad.out Ac.out (by decide))) (fun _ h_ => h_.1))) (Kd.R_base AE) hb); replace Aa := asd (blk_below (g := Aq) (o := .cells #[.int .i64 Ah, .int .i64 Ai, .int .i64 Aj] 23 (0, 0)) (bq1 Aa An) hb); replace Ac := asd (blk_below (g := AD) (o := .cells #[.int .i64 AF, .int .i64 AG, .int .i64 AH, .int .i64 AI, .bool AJ] 27 (0, 0)) (bq0 Ac) hb); replace HB := bS2 HB Ab Ag hb; (try clear hb); (try clear hb2); (try clear hk); (try clear hi); (try clear AE); obtain ⟨A0, A1, A3, A5, A6, Ba⟩ := bz3 Aa) | ((with_reducible refine gate_callee (f := 6) rfl ?_); refine gl 32 Tryz.func6 #[.agg #[.int .i64 Ah, .int .i64 Ai, .int .i64 Aj]] ?_; (with_reducible refine (laws_toLattice.calls _ _ _ _ _ _ _ Cq.out).mono ?_); rintro e CC ⟨rfl, hb⟩; refine ⟨_, rfl, ?_⟩; replace Ad := asd (Kd.R_below (kr Ad) hb); replace Ak := asd (Kd.R_below (kr Ak) hb); replace Aa := bB Aa hb; replace Ac := bB Ac hb; replace HB := bS2 HB Ab Ag hb; (try clear hb); obtain ⟨Ao26, co26, eo26⟩ := Kd.R_slice Ak.out; subst eo26) | ((with_reducible refine gate_callee (f := 8) rfl ?_); refine gl 34 Tryz.func8 #[.int .i64 a0, .agg #[.int .i64 BY, .int .i64 BZ, .int .i64 B0], .slice Ao26 Am.length co26] ?_; (with_reducible refine (impl_FactsOf.calls _ _ _ _ _ _ _ _ _ _ _ _ _ _ _ ?side1 ?side2 Cr.out).mono ?_); (case side1 => exact ks (Kd.R_reads' Ak.out).2.2); (case side2 => exact (Kd.R_reads' Ak.out).2.1); rintro e CD ⟨rfl, hb⟩; refine ⟨_, rfl, ?_⟩; replace Ad := asd (Kd.R_below (kr Ad) hb); replace Ak := asd (Kd.R_below (kr Ak) hb); replace Aa := bB Aa hb; replace Ac := bB Ac hb; replace HB := bS2 HB Ab Ag hb; (try clear hb)) | ((with_reducible refine gd 11 rfl ?_); refine bx #[.int .i64 0, .int .i64 0, .int .i64 0, .int .i64 0, .bool false] 27 ?_; intro BG hg CE Al hb; replace Ad := asd (Kd.R_below (kr Ad) hb); replace Ak := asd (Kd.R_below (kr Ak) hb); have Av := ngw2 hg HB Ab Ag; replace HB := bS2 HB Ab Ag hb; have Ao := nlt hg Aa; have Aw := nsy (nlt hg Aa); replace Aa := bB Aa hb; have Ap := nlt hg Ac; have Ax := nsy (nlt hg Ac); replace Ac := bB Ac hb; clear hb hg; have Cd := Aw.out; have Ce := Ao.out; have Cf := Ax.out; have Cg := Ap.out; obtain ⟨Bb, Bc, Bd, Be, Bf, Bg, Bh, Bi, Bj, Bk⟩ := bz5 Al))
  (try simp only [Act.put, sA, sB, sC])
  go_cut [45] (fun v45 wc => ∃ (kq : Nat) (Ay : Bool), v45 = .bool Ay ∧ Aside0 (laws_FnExactFactsOf.j0 kq l2 Am Ay = some true) ∧ Aside0 (kq ≤ k) ∧ Aside0 (Kd.R k46 46 wc w.heap.size (fun _ => True) (.slice Ao26 Am.length co26) Am) ∧ Aside0 (wc.heap[Aq]? = some (.cells #[.int .i64 Ah, .int .i64 Ai, .int .i64 Aj] 23 (0, 0))) ∧ Aside0 (wc.heap[AD]? = some (.cells #[.int .i64 AF, .int .i64 AG, .int .i64 AH, .int .i64 AI, .bool AJ] 27 (0, 0))) ∧ Aside0 (wc.heap[BG]? = some (.cells #[.int .i64 BJ, .int .i64 BK, .int .i64 BL, .int .i64 BM, .bool BN] 27 (0, 0))) ∧ Aside0 (Below w.heap.size w wc))
  case first =>
   have H := BO.out
   clear BO
   obtain ⟨AC, Cs, H⟩ := ob H
   try dsimp only at H
   by_cases BR : AC = true
   ·subst BR
    replace H := ifT H
    have H' := Aside0.mk H
    clear H
    have Ch := Aw.out
    have Ci := Ao.out
    have Cj := Ax.out
    have Ck := Ap.out
    obtain ⟨Bl, Bm, Bn, Bo, Bp, Bq, Br, Bs, Bt, Bu⟩ := bz5 Al
    have Cl := Au.out
    have Cm := An.out
    obtain ⟨Bv, Bw, Bx, By, Bz, BA, BB, BC, BD, BE⟩ := bz5 Ac
    go_wp2_with (first | ((with_reducible refine gate_callee (f := 9) rfl ?_); refine gl 39 Tryz.func9 #[.agg #[.int .i64 BJ, .int .i64 BK, .int .i64 BL, .int .i64 BM, .bool BN], .agg #[.int .i64 AF, .int .i64 AG, .int .i64 AH, .int .i64 AI, .bool AJ]] ?_; (with_reducible refine (laws_eqFacts.calls _ _ _ _ _ _ _ _ _ _ _ _ Cs.out).mono ?_); rintro e CF ⟨rfl, hb⟩; refine ⟨_, rfl, ?_⟩; replace Ad := asd (Kd.R_below (by (with_reducible repeat (first | apply Kd.R_alloc | apply Kd.R_drewN | apply Kd.R_drew)); exact (Kd.R_mono (rw5 (Kd.R_types Ad.out Al.out (by decide))) (fun _ h_ => h_.1))) hb); replace Ak := asd (Kd.R_below (by (with_reducible repeat (first | apply Kd.R_alloc | apply Kd.R_drewN | apply Kd.R_drew)); exact (Kd.R_mono (rw5 (Kd.R_types Ak.out Al.out (by decide))) (fun _ h_ => h_.1))) hb); replace Aa := asd (blk_below (g := Aq) (o := .cells #[.int .i64 Ah, .int .i64 Ai, .int .i64 Aj] 23 (0, 0)) (bq1 Aa Ao) hb); replace Ac := asd (blk_below (g := AD) (o := .cells #[.int .i64 AF, .int .i64 AG, .int .i64 AH, .int .i64 AI, .bool AJ] 27 (0, 0)) (bq1 Ac Ap) hb); replace Al := asd (blk_below (g := BG) (o := .cells #[.int .i64 BJ, .int .i64 BK, .int .i64 BL, .int .i64 BM, .bool BN] 27 (0, 0)) (bq0 Al) hb); replace HB := bS3 HB Ab Ag Av hb; (try clear hb)))
    go_meet
    case rel => exact ⟨_, ((B3 != BX)), (by first | rfl | (simp; done) | (simp [*]; done)), H', ⟨by first | omega | exact Nat.le_refl _⟩, ⟨by (with_reducible repeat (first | apply Kd.R_alloc | apply Kd.R_drewN | apply Kd.R_drew)); exact Kd.R_mono Ak.out (fun _ hk => trivial)⟩, ⟨bkp Aa⟩, ⟨bkp Ac⟩, ⟨bkp Al⟩, ⟨bbw3 HB Ab Ag Av⟩⟩
   ·replace BR := Bool.eq_false_iff.mpr BR
    subst BR
    replace H := ifF H
    exact absurd H (laws_FnExactFactsOf.j0_dead _ _ _)
  case rest =>
   clear BO
   try clear c2
   try clear c5
   try clear BQ
   try clear BR
   try clear AK
   try clear AL
   try clear AM
   try clear AQ
   try clear AR
   try clear AS
   try clear AT
   try clear AU
   try clear A0
   try clear A1
   try clear A3
   try clear Bb
   try clear Bc
   try clear Bd
   try clear Be
   try clear Bf
   try clear Bl
   try clear Bm
   try clear Bn
   try clear Bo
   try clear Bp
   try clear Bv
   try clear Bw
   try clear Bx
   try clear By
   try clear Bz
   try clear AN
   try clear AO
   try clear AP
   try clear AV
   try clear AW
   try clear AX
   try clear AY
   try clear AZ
   try clear A5
   try clear A6
   try clear Ba
   try clear Bg
   try clear Bh
   try clear Bi
   try clear Bj
   try clear Bk
   try clear Bq
   try clear Br
   try clear Bs
   try clear Bt
   try clear Bu
   try clear BA
   try clear BB
   try clear BC
   try clear BD
   try clear BE
   obtain ⟨kq, Ay, rfl, HA, Ct, At, Aa, Ac, Al, HB⟩ := hcut
   cases kq with
   | zero => exact absurd HA.out (by simp [laws_FnExactFactsOf.j0])
   | succ Cu =>
    have H := HA.out
    clear HA
    simp only [laws_FnExactFactsOf.j0] at H
    by_cases BS : Ay = true
    ·subst BS
     replace H := ifT H
     exact absurd H (by simp)
    ·replace BS := Bool.eq_false_iff.mpr BS
     subst BS
     replace H := ifF H
     obtain ⟨BH, Cv, H⟩ := ob H
     try dsimp only at H
     obtain ⟨BI, Cw, H⟩ := ob H
     try dsimp only at H
     by_cases BT : BI = true
     ·subst BT
      replace H := ifT H
      clear H
      go_wp2_with (first | ((with_reducible refine gate_callee (f := 7) rfl ?_); refine gl 48 Tryz.func7 #[.slice A2 l2.length c2] ?_; (with_reducible refine (laws_toMotionS.calls _ _ _ _ _ _ ?side1 ?side2 Cv.out).mono ?_); (case side1 => exact ks (Kd.C_below HR2.out HB.out)); (case side2 => exact BP.out); rintro e CG ⟨v822, rfl, AE, hb⟩; refine ⟨_, rfl, ?_⟩; have Az := asd (Kd.R_lower (Kd.R_new' AE (Kd.R_lt (kr At))) (bsz3 HB Ab Ag Av)); replace At := asd (Kd.R_elder' (kr At) (Kd.R_base AE) hb); replace Aa := bB Aa hb; replace Ac := bB Ac hb; replace Al := bB Al hb; replace HB := bS3 HB Ab Ag Av hb; (try clear hb); (try clear hb2); (try clear hk); (try clear hi); (try clear AE); obtain ⟨Ao51, co51, eo51⟩ := Kd.R_slice Az.out; subst eo51) | ((with_reducible refine gate_callee (f := 10) rfl ?_); refine gl 49 Tryz.func10 #[.slice Ao26 Am.length co26, .slice Ao51 BH.length co51] ?_; (with_reducible refine (laws_eqMotionS.calls _ _ _ _ _ _ _ _ _ ?side1 ?side2 ?side3 ?side4 Cw.out).mono ?_); (case side1 => exact ks (Kd.R_reads' At.out).2.2); (case side2 => exact (Kd.R_reads' At.out).2.1); (case side3 => exact ks (Kd.R_reads' Az.out).2.2); (case side4 => exact (Kd.R_reads' Az.out).2.1); rintro e CH ⟨rfl, hb⟩; refine ⟨_, rfl, ?_⟩; replace At := asd (Kd.R_below (kr At) hb); replace Az := asd (Kd.R_below (kr Az) hb); replace Aa := bB Aa hb; replace Ac := bB Ac hb; replace Al := bB Al hb; replace HB := bS3 HB Ab Ag Av hb; (try clear hb)))
      go_ret
      exact er (bbw3 HB Ab Ag Av)
     ·replace BT := Bool.eq_false_iff.mpr BT
      subst BT
      replace H := ifF H
      exact absurd H (by simp)
def laws_FnExactFactsOf.Pure : Prop := ∀ (a0 : Int) (Ah : Int) (Ai : Int) (Aj : Int) (l2 : List (S51)), (Lit.int .i64 a0).wf = true → (Lit.int .i64 Ah).wf = true → (Lit.int .i64 Ai).wf = true → (Lit.int .i64 Aj).wf = true → l2.length ≤ maxLen → (∀ x ∈ l2, (Lit.int .i64 x.f0.f0).wf = true ∧ (Lit.int .i64 x.f0.f1).wf = true ∧ (Lit.int .i64 x.f0.f2).wf = true ∧ (Lit.int .i64 x.f0.f3).wf = true ∧ (Lit.int .i64 x.f1.f0).wf = true ∧ (Lit.int .i64 x.f1.f1).wf = true) → ∃ k, laws_FnExactFactsOf.f k a0 Ah Ai Aj l2 = some true
end Go.Proofs.YtfmjboloeabjmaaGreat.PA
