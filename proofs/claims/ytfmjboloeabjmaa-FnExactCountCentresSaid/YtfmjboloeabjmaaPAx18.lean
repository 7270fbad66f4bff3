/- Walks written by program: each Go function that the law reaches comes to the plain function beside it. -/
import Derived.Test.YtfmjboloeabjmaaPAx0
import Derived.Test.YtfmjboloeabjmaaPAx5
import Derived.Test.YtfmjboloeabjmaaPAx11
import Derived.Test.YtfmjboloeabjmaaPAx12
import Derived.Test.YtfmjboloeabjmaaPAx17
namespace Go.Proofs.Ytfmjboloeabjmaa.PA
open Go.RowKit Go.Proofs.YtfmjboloeabjmaaW.PrintWords Go.Proofs.YtfmjboloeabjmaaW.PrintLast Go.Proofs.YtfmjboloeabjmaaW.PrintMore
attribute [local go_sem] max2_int min2_int max_two min_two max_three min_three max_four min_four   -- for this text's walks alone
set_option linter.unusedVariables false
set_option linter.unusedSimpArgs false

/-! ### laws_eqMat: function 39 -/
def laws_eqMat.f (a0_0 : Int) (a0_1 : Int) (a0_2 : Int) (a0_3 : Int) (a1_0 : Int) (a1_1 : Int) (a1_2 : Int) (a1_3 : Int) : Option (Bool) := if a0_0 = a1_0 then (if a0_1 = a1_1 then (if a0_2 = a1_2 then (if a0_3 = a1_3 then (some true) else (some false)) else (some false)) else (some false)) else (some false)
set_option maxHeartbeats 8000000 in
set_option maxRecDepth 100000 in
theorem laws_eqMat.calls (a0_0 : Int) (a0_1 : Int) (a0_2 : Int) (a0_3 : Int) (a1_0 : Int) (a1_1 : Int) (a1_2 : Int) (a1_3 : Int) (r : Bool) (w : World) (h : laws_eqMat.f a0_0 a0_1 a0_2 a0_3 a1_0 a1_1 a1_2 a1_3 = some r) :
  Calls Try.prog 39 #[.agg #[.int .i64 a0_0, .int .i64 a0_1, .int .i64 a0_2, .int .i64 a0_3], .agg #[.int .i64 a1_0, .int .i64 a1_1, .int .i64 a1_2, .int .i64 a1_3]] w fun e w' => e = .returned (.bool r) ∧ Below w.heap.size w w' := by
 have hu40 := Try.underlying40
 have HB := asd (Below.refl w.heap.size w)
 have H : (if a0_0 = a1_0 then (if a0_1 = a1_1 then (if a0_2 = a1_2 then (if a0_3 = a1_3 then (some true) else (some false)) else (some false)) else (some false)) else (some false)) = some r := h
 clear h
 by_cases c3 : a0_0 = a1_0
 rw [if_pos c3] at H
 have c3b0 : (a0_0 == a1_0) = true := beq_iff_eq.mpr c3
 have c3b1 : (a0_0 != a1_0) = false := bne_eq_false_iff_eq.mpr c3
 clear c3
 by_cases c4 : a0_1 = a1_1
 rw [if_pos c4] at H
 have c4b0 : (a0_1 == a1_1) = true := beq_iff_eq.mpr c4
 have c4b1 : (a0_1 != a1_1) = false := bne_eq_false_iff_eq.mpr c4
 clear c4
 by_cases c5 : a0_2 = a1_2
 rw [if_pos c5] at H
 have c5b0 : (a0_2 == a1_2) = true := beq_iff_eq.mpr c5
 have c5b1 : (a0_2 != a1_2) = false := bne_eq_false_iff_eq.mpr c5
 clear c5
 by_cases c6 : a0_3 = a1_3
 rw [if_pos c6] at H
 have c6b0 : (a0_3 == a1_3) = true := beq_iff_eq.mpr c6
 have c6b1 : (a0_3 != a1_3) = false := bne_eq_false_iff_eq.mpr c6
 clear c6
 obtain rfl := Option.some.inj H
 rotate_left
 rw [if_neg c6] at H
 have c6b0 : (a0_3 == a1_3) = false := beq_eq_false_iff_ne.mpr c6
 have c6b1 : (a0_3 != a1_3) = true := bne_iff_ne.mpr c6
 obtain rfl := Option.some.inj H
 rotate_left
 rw [if_neg c5] at H
 have c5b0 : (a0_2 == a1_2) = false := beq_eq_false_iff_ne.mpr c5
 have c5b1 : (a0_2 != a1_2) = true := bne_iff_ne.mpr c5
 obtain rfl := Option.some.inj H
 rotate_left
 rw [if_neg c4] at H
 have c4b0 : (a0_1 == a1_1) = false := beq_eq_false_iff_ne.mpr c4
 have c4b1 : (a0_1 != a1_1) = true := bne_iff_ne.mpr c4
 obtain rfl := Option.some.inj H
 rotate_left
 rw [if_neg c3] at H
 have c3b0 : (a0_0 == a1_0) = false := beq_eq_false_iff_ne.mpr c3
 have c3b1 : (a0_0 != a1_0) = true := bne_iff_ne.mpr c3
 obtain rfl := Option.some.inj H
 rotate_left
 all_goals
  go_enter Try.func39, Try.ntmps39
  go_wp2_with (first | ((with_reducible refine gd 2 rfl ?_); refine bx #[.int .i64 a0_0, .int .i64 a0_1, .int .i64 a0_2, .int .i64 a0_3] 40 ?_; intro gb583 hg w7 BK583 hb; have GE583 := ngw0 hg HB; replace HB := bS0 HB hb; clear hb hg) | ((with_reducible refine gd 3 rfl ?_); refine bx #[.int .i64 a1_0, .int .i64 a1_1, .int .i64 a1_2, .int .i64 a1_3] 40 ?_; intro gb584 hg w8 BK584 hb; have GE584 := ngw1 hg HB GE583; replace HB := bS1 HB GE583 hb; have NB583_584 := nlt hg BK583; have NB584_583 := nsy (nlt hg BK583); replace BK583 := bB BK583 hb; clear hb hg; have hnb9 := NB583_584.out; have hnc9 := NB584_583.out; obtain ⟨hcz10_0, hcz10_1, hcz10_2, hcz10_3, hfz10_0, hfz10_1, hfz10_2, hfz10_3⟩ := bz4 BK583; obtain ⟨hcz11_0, hcz11_1, hcz11_2, hcz11_3, hfz11_0, hfz11_1, hfz11_2, hfz11_3⟩ := bz4 BK584))
  go_ret
  exact er (bbw2 HB GE583 GE584)
/-! ### laws_eqVec: function 40 -/
def laws_eqVec.f (a0_0 : Int) (a0_1 : Int) (a1_0 : Int) (a1_1 : Int) : Option (Bool) := if a0_0 = a1_0 then (if a0_1 = a1_1 then (some true) else (some false)) else (some false)
set_option maxHeartbeats 8000000 in
set_option maxRecDepth 100000 in
theorem laws_eqVec.calls (a0_0 : Int) (a0_1 : Int) (a1_0 : Int) (a1_1 : Int) (r : Bool) (w : World) (h : laws_eqVec.f a0_0 a0_1 a1_0 a1_1 = some r) :
  Calls Try.prog 40 #[.agg #[.int .i64 a0_0, .int .i64 a0_1], .agg #[.int .i64 a1_0, .int .i64 a1_1]] w fun e w' => e = .returned (.bool r) ∧ Below w.heap.size w w' := by
 have hu42 := Try.underlying42
 have HB := asd (Below.refl w.heap.size w)
 have H : (if a0_0 = a1_0 then (if a0_1 = a1_1 then (some true) else (some false)) else (some false)) = some r := h
 clear h
 by_cases c3 : a0_0 = a1_0
 rw [if_pos c3] at H
 have c3b0 : (a0_0 == a1_0) = true := beq_iff_eq.mpr c3
 have c3b1 : (a0_0 != a1_0) = false := bne_eq_false_iff_eq.mpr c3
 clear c3
 by_cases c4 : a0_1 = a1_1
 rw [if_pos c4] at H
 have c4b0 : (a0_1 == a1_1) = true := beq_iff_eq.mpr c4
 have c4b1 : (a0_1 != a1_1) = false := bne_eq_false_iff_eq.mpr c4
 clear c4
 obtain rfl := Option.some.inj H
 rotate_left
 rw [if_neg c4] at H
 have c4b0 : (a0_1 == a1_1) = false := beq_eq_false_iff_ne.mpr c4
 have c4b1 : (a0_1 != a1_1) = true := bne_iff_ne.mpr c4
 obtain rfl := Option.some.inj H
 rotate_left
 rw [if_neg c3] at H
 have c3b0 : (a0_0 == a1_0) = false := beq_eq_false_iff_ne.mpr c3
 have c3b1 : (a0_0 != a1_0) = true := bne_iff_ne.mpr c3
 obtain rfl := Option.some.inj H
 rotate_left
 all_goals
  go_enter Try.func40, Try.ntmps40
  go_wp2_with (first | ((with_reducible refine gd 2 rfl ?_); refine bx #[.int .i64 a0_0, .int .i64 a0_1] 42 ?_; intro gb585 hg w5 BK585 hb; have GE585 := ngw0 hg HB; replace HB := bS0 HB hb; clear hb hg) | ((with_reducible refine gd 3 rfl ?_); refine bx #[.int .i64 a1_0, .int .i64 a1_1] 42 ?_; intro gb586 hg w6 BK586 hb; have GE586 := ngw1 hg HB GE585; replace HB := bS1 HB GE585 hb; have NB585_586 := nlt hg BK585; have NB586_585 := nsy (nlt hg BK585); replace BK585 := bB BK585 hb; clear hb hg; have hnb7 := NB585_586.out; have hnc7 := NB586_585.out; obtain ⟨hcz8_0, hcz8_1, hfz8_0, hfz8_1⟩ := bz2 BK585; obtain ⟨hcz9_0, hcz9_1, hfz9_0, hfz9_1⟩ := bz2 BK586))
  go_ret
  exact er (bbw2 HB GE585 GE586)
/-! ### laws_eqMotion: function 22 -/
def laws_eqMotion.f (a0_0 : Int) (a0_1 : Int) (a0_2 : Int) (a0_3 : Int) (a0_4 : Int) (a0_5 : Int) (a1_0 : Int) (a1_1 : Int) (a1_2 : Int) (a1_3 : Int) (a1_4 : Int) (a1_5 : Int) : Option (Bool) := (laws_eqMat.f a0_0 a0_1 a0_2 a0_3 a1_0 a1_1 a1_2 a1_3).bind fun t589 => (if t589 = true then ((laws_eqVec.f a0_4 a0_5 a1_4 a1_5).bind fun t590 => (if t590 = true then (some true) else (some false))) else (some false))
set_option maxHeartbeats 8000000 in
set_option maxRecDepth 100000 in
theorem laws_eqMotion.calls (a0_0 : Int) (a0_1 : Int) (a0_2 : Int) (a0_3 : Int) (a0_4 : Int) (a0_5 : Int) (a1_0 : Int) (a1_1 : Int) (a1_2 : Int) (a1_3 : Int) (a1_4 : Int) (a1_5 : Int) (r : Bool) (w : World) (h : laws_eqMotion.f a0_0 a0_1 a0_2 a0_3 a0_4 a0_5 a1_0 a1_1 a1_2 a1_3 a1_4 a1_5 = some r) :
  Calls Try.prog 22 #[.agg #[.int .i64 a0_0, .int .i64 a0_1, .int .i64 a0_2, .int .i64 a0_3, .int .i64 a0_4, .int .i64 a0_5], .agg #[.int .i64 a1_0, .int .i64 a1_1, .int .i64 a1_2, .int .i64 a1_3, .int .i64 a1_4, .int .i64 a1_5]] w fun e w' => e = .returned (.bool r) ∧ Below w.heap.size w w' := by
 have hu44 := Try.underlying44
 have hu40 := Try.underlying40
 have hu42 := Try.underlying42
 have HB := asd (Below.refl w.heap.size w)
 have H : ((laws_eqMat.f a0_0 a0_1 a0_2 a0_3 a1_0 a1_1 a1_2 a1_3).bind fun t589 => (if t589 = true then ((laws_eqVec.f a0_4 a0_5 a1_4 a1_5).bind fun t590 => (if t590 = true then (some true) else (some false))) else (some false))) = some r := h
 clear h
 obtain ⟨t589, A3, H⟩ := ob H
 try dsimp only at H
 by_cases c4 : t589 = true
 subst c4
 replace H := ifT H
 obtain ⟨t590, A5, H⟩ := ob H
 try dsimp only at H
 by_cases c6 : t590 = true
 subst c6
 replace H := ifT H
 obtain rfl := Option.some.inj H
 rotate_left
 replace c6 := Bool.eq_false_iff.mpr c6
 subst c6
 replace H := ifF H
 obtain rfl := Option.some.inj H
 rotate_left
 replace c4 := Bool.eq_false_iff.mpr c4
 subst c4
 replace H := ifF H
 obtain rfl := Option.some.inj H
 rotate_left
 all_goals
  go_enter Try.func22, Try.ntmps22
 rotate_left 2
 ·go_wp2_with (first | ((with_reducible refine gd 2 rfl ?_); refine bx #[.int .i64 a0_0, .int .i64 a0_1, .int .i64 a0_2, .int .i64 a0_3, .int .i64 a0_4, .int .i64 a0_5] 44 ?_; intro gb587 hg w25 BK587 hb; have GE587 := ngw0 hg HB; replace HB := bS0 HB hb; clear hb hg) | ((with_reducible refine gd 3 rfl ?_); refine bx #[.int .i64 a1_0, .int .i64 a1_1, .int .i64 a1_2, .int .i64 a1_3, .int .i64 a1_4, .int .i64 a1_5] 44 ?_; intro gb588 hg w26 BK588 hb; have GE588 := ngw1 hg HB GE587; replace HB := bS1 HB GE587 hb; have NB587_588 := nlt hg BK587; have NB588_587 := nsy (nlt hg BK587); replace BK587 := bB BK587 hb; clear hb hg; have hnb27 := NB587_588.out; have hnc27 := NB588_587.out; obtain ⟨hcz28_0, hcz28_1, hcz28_2, hcz28_3, hcz28_4, hcz28_5, hfz28_0, hfz28_1, hfz28_2, hfz28_3, hfz28_4, hfz28_5⟩ := bz6 BK587; obtain ⟨hcz29_0, hcz29_1, hcz29_2, hcz29_3, hcz29_4, hcz29_5, hfz29_0, hfz29_1, hfz29_2, hfz29_3, hfz29_4, hfz29_5⟩ := bz6 BK588) | ((with_reducible refine gate_callee (f := 39) rfl ?_); refine gl 9 Try.func39 #[.agg #[.int .i64 a0_0, .int .i64 a0_1, .int .i64 a0_2, .int .i64 a0_3], .agg #[.int .i64 a1_0, .int .i64 a1_1, .int .i64 a1_2, .int .i64 a1_3]] ?_; (with_reducible refine (laws_eqMat.calls _ _ _ _ _ _ _ _ _ _ A3.out).mono ?_); rintro e w30 ⟨rfl, hb⟩; refine ⟨_, rfl, ?_⟩; replace BK587 := bB BK587 hb; replace BK588 := bB BK588 hb; replace HB := bS2 HB GE587 GE588 hb; (try clear hb)))
  go_ret
  exact er (bbw2 HB GE587 GE588)
 all_goals
  go_wp2_with (first | ((with_reducible refine gd 2 rfl ?_); refine bx #[.int .i64 a0_0, .int .i64 a0_1, .int .i64 a0_2, .int .i64 a0_3, .int .i64 a0_4, .int .i64 a0_5] 44 ?_; intro gb587 hg w7 BK587 hb; have GE587 := ngw0 hg HB; replace HB := bS0 HB hb; clear hb hg) | ((with_reducible refine gd 3 rfl ?_); refine bx #[.int .i64 a1_0, .int .i64 a1_1, .int .i64 a1_2, .int .i64 a1_3, .int .i64 a1_4, .int .i64 a1_5] 44 ?_; intro gb588 hg w8 BK588 hb; have GE588 := ngw1 hg HB GE587; replace HB := bS1 HB GE587 hb; have NB587_588 := nlt hg BK587; have NB588_587 := nsy (nlt hg BK587); replace BK587 := bB BK587 hb; clear hb hg; have hnb9 := NB587_588.out; have hnc9 := NB588_587.out; obtain ⟨hcz10_0, hcz10_1, hcz10_2, hcz10_3, hcz10_4, hcz10_5, hfz10_0, hfz10_1, hfz10_2, hfz10_3, hfz10_4, hfz10_5⟩ := bz6 BK587; obtain ⟨hcz11_0, hcz11_1, hcz11_2, hcz11_3, hcz11_4, hcz11_5, hfz11_0, hfz11_1, hfz11_2, hfz11_3, hfz11_4, hfz11_5⟩ := bz6 BK588) | ((with_reducible refine gate_callee (f := 39) rfl ?_); refine gl 9 Try.func39 #[.agg #[.int .i64 a0_0, .int .i64 a0_1, .int .i64 a0_2, .int .i64 a0_3], .agg #[.int .i64 a1_0, .int .i64 a1_1, .int .i64 a1_2, .int .i64 a1_3]] ?_; (with_reducible refine (laws_eqMat.calls _ _ _ _ _ _ _ _ _ _ A3.out).mono ?_); rintro e w12 ⟨rfl, hb⟩; refine ⟨_, rfl, ?_⟩; replace BK587 := bB BK587 hb; replace BK588 := bB BK588 hb; replace HB := bS2 HB GE587 GE588 hb; (try clear hb); obtain ⟨hcz13_0, hcz13_1, hcz13_2, hcz13_3, hcz13_4, hcz13_5, hfz13_0, hfz13_1, hfz13_2, hfz13_3, hfz13_4, hfz13_5⟩ := bz6 BK587; obtain ⟨hcz14_0, hcz14_1, hcz14_2, hcz14_3, hcz14_4, hcz14_5, hfz14_0, hfz14_1, hfz14_2, hfz14_3, hfz14_4, hfz14_5⟩ := bz6 BK588) | ((with_reducible refine gate_callee (f := 40) rfl ?_); refine gl 15 Try.func40 #[.agg #[.int .i64 a0_4, .int .i64 a0_5], .agg #[.int .i64 a1_4, .int .i64 a1_5]] ?_; (with_reducible refine (laws_eqVec.calls _ _ _ _ _ _ A5.out).mono ?_); rintro e w15 ⟨rfl, hb⟩; refine ⟨_, rfl, ?_⟩; replace BK587 := bB BK587 hb; replace BK588 := bB BK588 hb; replace HB := bS2 HB GE587 GE588 hb; (try clear hb)))
  go_ret
  exact er (bbw2 HB GE587 GE588)
/-! ### laws_eqMotionS: function 9 -/
def laws_eqMotionS.l0 : Nat → List (S44) → List (S44) → Int → Option (Bool)
 | 0, _, _, _ => none
 | k + 1, x0, x1, x5 => if x5 < (x0.length : Int) then (if 0 ≤ x5 then (if x5 < (x1.length : Int) then ((laws_eqMotion.f ((rd_T44 x0 x5).f0.f0) ((rd_T44 x0 x5).f0.f1) ((rd_T44 x0 x5).f0.f2) ((rd_T44 x0 x5).f0.f3) ((rd_T44 x0 x5).f1.f0) ((rd_T44 x0 x5).f1.f1) ((rd_T44 x1 x5).f0.f0) ((rd_T44 x1 x5).f0.f1) ((rd_T44 x1 x5).f0.f2) ((rd_T44 x1 x5).f0.f3) ((rd_T44 x1 x5).f1.f0) ((rd_T44 x1 x5).f1.f1)).bind fun t593 => (if t593 = true then (laws_eqMotionS.l0 k x0 x1 (wrap64 (x5 + 1))) else (some false))) else (none)) else (none)) else (some true)
def laws_eqMotionS.f (k : Nat) (l0 : List (S44)) (l1 : List (S44)) : Option (Bool) := if (l0.length : Int) = (l1.length : Int) then (laws_eqMotionS.l0 k l0 l1 0) else (some false)
def laws_eqMotionS.T6 : Bool × List (List Nat × List Nat) := (true, [([], []), ([], []), ([0, 1], [0, 1]), ([2], [2]), ([], []), ([], []), ([4, 5], [4, 5]), ([6], [6]), ([3, 7], [3, 7]), ([8], [8])])
def laws_eqMotionS.B6 : List Nat := [0, 0, 3, 7, 0, 0, 48, 112, 255, 511]
theorem laws_eqMotionS.tab6 : rtab .any (opsOf Try.f9 6) = laws_eqMotionS.T6 := by kernel_rfl
theorem laws_eqMotionS.bits6 : waitsOk laws_eqMotionS.T6.2 laws_eqMotionS.B6 = true := by kernel_rfl
set_option maxHeartbeats 8000000 in
set_option maxRecDepth 100000 in
theorem laws_eqMotionS.calls (k : Nat) (A0 : Option Addr) (c0 : Nat) (l0 : List (S44)) (A1 : Option Addr) (c1 : Nat) (l1 : List (S44)) (r : Bool) (w : World) (hr0 : Kd.C k44 w A0 l0.length l0) (hc0 : l0.length ≤ c0) (hr1 : Kd.C k44 w A1 l1.length l1) (hc1 : l1.length ≤ c1) (h : laws_eqMotionS.f k l0 l1 = some r) :
  Calls Try.prog 9 #[.slice A0 l0.length c0, .slice A1 l1.length c1] w fun e w' => e = .returned (.bool r) ∧ Below w.heap.size w w' := by
 have hu44 := Try.underlying44
 have HR0 := Aside0.mk hr0
 have HC0 := Aside0.mk hc0
 clear hr0 hc0
 have HR1 := Aside0.mk hr1
 have HC1 := Aside0.mk hc1
 clear hr1 hc1
 have HB := asd (Below.refl w.heap.size w)
 have H : (if (l0.length : Int) = (l1.length : Int) then (laws_eqMotionS.l0 k l0 l1 0) else (some false)) = some r := h
 clear h
 by_cases c3 : (l0.length : Int) = (l1.length : Int)
 ·rw [if_pos c3] at H
  have c3b0 : ((l0.length : Int) == (l1.length : Int)) = true := beq_iff_eq.mpr c3
  have c3b1 : ((l0.length : Int) != (l1.length : Int)) = false := bne_eq_false_iff_eq.mpr c3
  have c3b2 : (l0.length == l1.length) = true := by first | simpa using c3 | (simp at c3 ⊢; omega)
  clear c3
  have H' := Aside0.mk H
  clear H
  go_enter Try.func9, Try.ntmps9
  go_wp2
  go_loopg [5] k (fun kq v5 w' => ∃ (x5_1 : Int), v5 = .int .i64 x5_1 ∧ Aside0 (laws_eqMotionS.l0 kq l0 l1 x5_1 = some r) ∧ Aside0 (kq ≤ k) ∧ Aside0 (Below w.heap.size w w'))
  case atStart => exact ⟨(0), (by first | rfl | (simp; done) | (simp [*]; done)), H', ⟨Nat.le_refl _⟩, ⟨bbw0 HB⟩⟩
  case round =>
   clear H'
   try clear c1
   try clear p2
   try clear c3
   try clear c3b0
   try clear c3b1
   try clear c3b2
   obtain ⟨x5_1, rfl, HA, HK1, HB⟩ := hrel
   cases gk with
   | zero => exact absurd HA.out (by simp [laws_eqMotionS.l0])
   | succ k1 =>
    have H := HA.out
    clear HA
    simp only [laws_eqMotionS.l0] at H
    by_cases c4 : x5_1 < (l0.length : Int)
    rw [if_pos c4] at H
    have c4b0 := decide_eq_true c4
    clear c4
    by_cases c5 : 0 ≤ x5_1
    rw [if_pos c5] at H
    have c5b0 := decide_eq_true c5
    clear c5
    by_cases c6 : x5_1 < (l1.length : Int)
    rw [if_pos c6] at H
    have c6b0 := decide_eq_true c6
    clear c6
    obtain ⟨t593, A7, H⟩ := ob H
    try dsimp only at H
    by_cases c8 : t593 = true
    subst c8
    replace H := ifT H
    have H' := Aside0.mk H
    clear H
    rotate_left
    replace c8 := Bool.eq_false_iff.mpr c8
    subst c8
    replace H := ifF H
    obtain rfl := Option.some.inj H
    rotate_left
    ·rw [if_neg c6] at H
     exact absurd H (by simp)
    ·rw [if_neg c5] at H
     exact absurd H (by simp)
    rw [if_neg c4] at H
    have c4b0 := decide_eq_false c4
    clear c4
    obtain rfl := Option.some.inj H
    rotate_left
    rotate_left 2
    ·go_wp2
     go_ret
     exact er (bbw0 HB)
    all_goals
     try go_wp2
     replace HB := asd (below_drew1 HB.out)
     obtain ⟨p591, q591, ad591, e591, hw591_0, hw591_1, hw591_2, hw591_3, hw591_4, hw591_5, hx591_0, hx591_1, hx591_2, hx591_3, hx591_4, hx591_5⟩ := at_T44w HR0.out HB x5_1
     cases e591
     obtain ⟨p592, q592, ad592, e592, hw592_0, hw592_1, hw592_2, hw592_3, hw592_4, hw592_5, hx592_0, hx592_1, hx592_2, hx592_3, hx592_4, hx592_5⟩ := at_T44w HR1.out HB x5_1
     cases e592
     refine sh 10 (cx6 HB hw591_0 hw591_1 hw591_2 hw591_3 hw591_4 hw591_5 (ex6 HB hw592_0 hw592_1 hw592_2 hw592_3 hw592_4 hw592_5)) (fun hHeld => ?_); refine with_tabW laws_eqMotionS.tab6 laws_eqMotionS.bits6 (fun HT_ HW_ => ?_)
     generalize wr.drew = w9 at HB hx591_0 hx591_1 hx591_2 hx591_3 hx591_4 hx591_5 hx592_0 hx592_1 hx592_2 hx592_3 hx592_4 hx592_5 hHeld ⊢
     refine pu 0 (some 17) (bT 10 1) HT_ ?_
     refine pu 1 (some 18) (bT 10 2) HT_ ?_
     refine pu 2 (some 19) (bT 10 3) HT_ ?_
     refine pu 4 (some 21) (bs 10 23) HT_ ?_
     refine pu 5 (some 22) (bs 10 55) HT_ ?_
     refine pu 6 (some 23) (bs 10 119) HT_ ?_
     refine ta 3 (some 20) (bT 10 7) HT_ HW_ hHeld ?_
     refine ta 7 (some 24) (bT 10 8) HT_ HW_ hHeld ?_
     refine ro 8 (some 25) (bT 10 9) HT_ (fun K hK => ?_)
     refine gs Try.func22 #[.agg #[.int .i64 ((rd_T44 l0 x5_1).f0.f0), .int .i64 ((rd_T44 l0 x5_1).f0.f1), .int .i64 ((rd_T44 l0 x5_1).f0.f2), .int .i64 ((rd_T44 l0 x5_1).f0.f3), .int .i64 ((rd_T44 l0 x5_1).f1.f0), .int .i64 ((rd_T44 l0 x5_1).f1.f1)], .agg #[.int .i64 ((rd_T44 l1 x5_1).f0.f0), .int .i64 ((rd_T44 l1 x5_1).f0.f1), .int .i64 ((rd_T44 l1 x5_1).f0.f2), .int .i64 ((rd_T44 l1 x5_1).f0.f3), .int .i64 ((rd_T44 l1 x5_1).f1.f0), .int .i64 ((rd_T44 l1 x5_1).f1.f1)]] ?_
     with_reducible refine (laws_eqMotion.calls _ _ _ _ _ _ _ _ _ _ _ _ _ _ A7.out).mono ?_
     rintro e w10 ⟨rfl, hb⟩
     refine ⟨_, rfl, ?_⟩
     replace HB := bS0 HB hb
     (try clear hb)
     (try clear hb2)
     (try clear hk)
     (try clear hi)
     refine hK.out _ _ (cx6 HB hw591_0 hw591_1 hw591_2 hw591_3 hw591_4 hw591_5 (ex6 HB hw592_0 hw592_1 hw592_2 hw592_3 hw592_4 hw592_5)).out (fun hHeld => ?_)
     clear hK K
     refine norm_ (a' := ?_) ?_ ?_
     rotate_left
     ·show Act.put _ (some 25) _ = _
      simp only [Act.put, sA, sB, sC, i64_w, i32_w]
      rfl
     refine pu 9 (some 26) (bT 10 10) HT_ ?_
     refine done_ (done_of HT_.out (by kernel_rfl)) ?_
     try go_wp2
    ·go_roundg k1
     case measure => have := HK1.out; omega
     case rel => exact ⟨(wrap64 (x5_1 + 1)), (by first | rfl | (simp; done) | (simp [*]; done)), H', ⟨by have := HK1.out; omega⟩, ⟨bbw0 HB⟩⟩
    ·go_ret
     exact er (bbw0 HB)
 ·rw [if_neg c3] at H
  have c3b0 : ((l0.length : Int) == (l1.length : Int)) = false := beq_eq_false_iff_ne.mpr c3
  have c3b1 : ((l0.length : Int) != (l1.length : Int)) = true := bne_iff_ne.mpr c3
  have c3b2 : (l0.length == l1.length) = false := by first | simpa using c3 | (simp at c3 ⊢; omega)
  obtain rfl := Option.some.inj H
  go_enter Try.func9, Try.ntmps9
  go_wp2
  go_ret
  exact er (bbw0 HB)
/-! ### laws_FnExactCountCentres: function 3 -/
def laws_FnExactCountCentres.j0 : Nat → List (S49) → List (S44) → Bool → Option (Bool)
 | 0, _, _, _ => none
 | k + 1, x2, x12, x48 => if x48 = true then (some false) else ((laws_toMotionS.f k x2).bind fun t612 => ((laws_eqMotionS.f k x12 t612).bind fun t615 => (if t615 = true then (some true) else (some false))))
def laws_FnExactCountCentres.f (k : Nat) (a0 : Int) (a1_0 : Int) (a1_1 : Int) (a1_2 : Int) (l2 : List (S49)) (a3 : Int) : Option (Bool) := (laws_szMotionS.f l2 1048576).bind fun t595 => (if t595 < 0 then (some true) else ((laws_toLattice.f a1_0 a1_1 a1_2).bind fun bt596 => ((laws_toMotionS.f k l2).bind fun t599 => ((spec_CountCentres.f k a0 bt596.1 bt596.2.1 bt596.2.2 t599 a3).bind fun bt602 => ((laws_toMotionS.f k l2).bind fun t604 => ((laws_toLattice.f a1_0 a1_1 a1_2).bind fun bt607 => ((impl_CountCentres.f k a0 bt607.1 bt607.2.1 bt607.2.2 t604 a3).bind fun bt610 => (if bt610.1 = bt602.1 then (laws_FnExactCountCentres.j0 k l2 t604 (bt610.2 != bt602.2)) else (laws_FnExactCountCentres.j0 k l2 t604 true)))))))))
theorem laws_FnExactCountCentres.j0_dead (k : Nat) (a0 : List (S49)) (a1 : List (S44)) : laws_FnExactCountCentres.j0 k a0 a1 true ≠ some true := by
 cases k <;> simp [laws_FnExactCountCentres.j0]
set_option maxHeartbeats 8000000 in
set_option maxRecDepth 100000 in
theorem laws_FnExactCountCentres.calls (k : Nat) (a0 : Int) (a1_0 : Int) (a1_1 : Int) (a1_2 : Int) (A2 : Option Addr) (c2 : Nat) (l2 : List (S49)) (a3 : Int) (w : World) (hr2 : Kd.C k49 w A2 l2.length l2) (hc2 : l2.length ≤ c2) (h : laws_FnExactCountCentres.f k a0 a1_0 a1_1 a1_2 l2 a3 = some true) :
  Calls Try.prog 3 #[.int .i64 a0, .agg #[.int .i64 a1_0, .int .i64 a1_1, .int .i64 a1_2], .slice A2 l2.length c2, .int .i64 a3] w fun e w' => e = .returned (.bool true) ∧ Below w.heap.size w w' := by
 have hu23 := Try.underlying23
 have HR2 := Aside0.mk hr2
 have HC2 := Aside0.mk hc2
 clear hr2 hc2
 have HB := asd (Below.refl w.heap.size w)
 have H : ((laws_szMotionS.f l2 1048576).bind fun t595 => (if t595 < 0 then (some true) else ((laws_toLattice.f a1_0 a1_1 a1_2).bind fun bt596 => ((laws_toMotionS.f k l2).bind fun t599 => ((spec_CountCentres.f k a0 bt596.1 bt596.2.1 bt596.2.2 t599 a3).bind fun bt602 => ((laws_toMotionS.f k l2).bind fun t604 => ((laws_toLattice.f a1_0 a1_1 a1_2).bind fun bt607 => ((impl_CountCentres.f k a0 bt607.1 bt607.2.1 bt607.2.2 t604 a3).bind fun bt610 => (if bt610.1 = bt602.1 then (laws_FnExactCountCentres.j0 k l2 t604 (bt610.2 != bt602.2)) else (laws_FnExactCountCentres.j0 k l2 t604 true)))))))))) = some true := h
 clear h
 obtain ⟨t595, A5, H⟩ := ob H
 try dsimp only at H
 by_cases c6 : t595 < 0
 ·rw [if_pos c6] at H
  have c6b0 := decide_eq_true c6
  clear c6
  clear H
  go_enter Try.func3, Try.ntmps3
  go_wp2_with (first | ((with_reducible refine gd 5 rfl ?_); refine bx #[.int .i64 a1_0, .int .i64 a1_1, .int .i64 a1_2] 23 ?_; intro gb594 hg w7 BK594 hb; have GE594 := ngw0 hg HB; replace HB := bS0 HB hb; clear hb hg) | ((with_reducible refine gate_callee (f := 4) rfl ?_); refine gl 17 Try.func4 #[.slice A2 l2.length c2, .int .i64 1048576] ?_; (with_reducible refine (laws_szMotionS.calls _ _ _ _ _ _ ?side1 ?side2 A5.out).mono ?_); (case side1 => exact ks (Kd.C_below HR2.out HB.out)); (case side2 => exact HC2.out); rintro e w' ⟨rfl, ⟨nd, rfl⟩⟩; refine ⟨_, rfl, ?_⟩))
  go_ret
  exact er (bbw1 HB GE594)
 ·rw [if_neg c6] at H
  have c6b0 := decide_eq_false c6
  clear c6
  obtain ⟨⟨t596, t597, t598⟩, A8, H⟩ := ob H
  try dsimp only at H
  obtain ⟨t599, A9, H⟩ := ob H
  try dsimp only at H
  obtain ⟨⟨t602, t603⟩, A10, H⟩ := ob H
  try dsimp only at H
  obtain ⟨t604, A11, H⟩ := ob H
  try dsimp only at H
  obtain ⟨⟨t607, t608, t609⟩, A12, H⟩ := ob H
  try dsimp only at H
  obtain ⟨⟨t610, t611⟩, A13, H⟩ := ob H
  try dsimp only at H
  have HC14 := Aside0.mk H
  clear H
  go_enter Try.func3, Try.ntmps3
  go_upto_region 8 with (first | ((with_reducible refine gd 5 rfl ?_); refine bx #[.int .i64 a1_0, .int .i64 a1_1, .int .i64 a1_2] 23 ?_; intro gb594 hg w15 BK594 hb; have GE594 := ngw0 hg HB; replace HB := bS0 HB hb; clear hb hg) | ((with_reducible refine gate_callee (f := 4) rfl ?_); refine gl 17 Try.func4 #[.slice A2 l2.length c2, .int .i64 1048576] ?_; (with_reducible refine (laws_szMotionS.calls _ _ _ _ _ _ ?side1 ?side2 A5.out).mono ?_); (case side1 => exact ks (Kd.C_below HR2.out HB.out)); (case side2 => exact HC2.out); rintro e w' ⟨rfl, ⟨nd, rfl⟩⟩; refine ⟨_, rfl, ?_⟩; have hcz16_0 : w15.cell? ⟨gb594, 0, none⟩ = some (.int .i64 a1_0) := bcl BK594 0; have hcz16_1 : w15.cell? ⟨gb594, 1, none⟩ = some (.int .i64 a1_1) := bcl BK594 1; have hcz16_2 : w15.cell? ⟨gb594, 2, none⟩ = some (.int .i64 a1_2) := bcl BK594 2; have hfz16_0 := blk_frozen BK594.out 0; have hfz16_1 := blk_frozen BK594.out 1; have hfz16_2 := blk_frozen BK594.out 2) | ((with_reducible refine gate_callee (f := 6) rfl ?_); refine gl 23 Try.func6 #[.agg #[.int .i64 a1_0, .int .i64 a1_1, .int .i64 a1_2]] ?_; (with_reducible refine (laws_toLattice.calls _ _ _ _ _ _ _ A8.out).mono ?_); rintro e w17 ⟨rfl, hb⟩; refine ⟨_, rfl, ?_⟩; replace BK594 := bB BK594 hb; replace HB := bS1 HB GE594 hb; (try clear hb)) | ((with_reducible refine gate_callee (f := 7) rfl ?_); refine gl 25 Try.func7 #[.slice A2 l2.length c2] ?_; (with_reducible refine (laws_toMotionS.calls _ _ _ _ _ _ ?side1 ?side2 A9.out).mono ?_); (case side1 => exact ks (Kd.C_below HR2.out HB.out)); (case side2 => exact HC2.out); rintro e w18 ⟨v600, rfl, ho0, hb⟩; refine ⟨_, rfl, ?_⟩; have HO601 := asd (Kd.R_lower ho0 (bsz1 HB GE594)); replace BK594 := bB BK594 hb; replace HB := bS1 HB GE594 hb; (try clear hb); (try clear hb2); (try clear hk); (try clear hi); (try clear ho0); obtain ⟨Ao19, co19, eo19⟩ := Kd.R_slice HO601.out; subst eo19) | ((with_reducible refine gate_callee (f := 5) rfl ?_); refine gl 27 Try.func5 #[.int .i64 a0, .agg #[.int .i64 t596, .int .i64 t597, .int .i64 t598], .slice Ao19 t599.length co19, .int .i64 a3] ?_; (with_reducible refine (spec_CountCentres.calls _ _ _ _ _ _ _ _ _ _ _ _ ?side1 ?side2 A10.out).mono ?_); (case side1 => exact ks (Kd.R_reads' HO601.out).2.2); (case side2 => exact (Kd.R_reads' HO601.out).2.1); rintro e w20 ⟨rfl, hb⟩; refine ⟨_, rfl, ?_⟩; replace HO601 := asd (Kd.R_below (kr HO601) hb); replace BK594 := bB BK594 hb; replace HB := bS1 HB GE594 hb; (try clear hb)) | ((with_reducible refine gate_callee (f := 7) rfl ?_); refine gl 31 Try.func7 #[.slice A2 l2.length c2] ?_; (with_reducible refine (laws_toMotionS.calls _ _ _ _ _ _ ?side1 ?side2 A11.out).mono ?_); (case side1 => exact ks (Kd.C_below HR2.out HB.out)); (case side2 => exact HC2.out); rintro e w21 ⟨v605, rfl, ho0, hb⟩; refine ⟨_, rfl, ?_⟩; have HO606 := asd (Kd.R_lower (Kd.R_new' ho0 (Kd.R_lt (kr HO601))) (bsz1 HB GE594)); replace HO601 := asd (Kd.R_elder' (kr HO601) (Kd.R_base ho0) hb); replace BK594 := bB BK594 hb; replace HB := bS1 HB GE594 hb; (try clear hb); (try clear hb2); (try clear hk); (try clear hi); (try clear ho0); obtain ⟨hcz22_0, hcz22_1, hcz22_2, hfz22_0, hfz22_1, hfz22_2⟩ := bz3 BK594) | ((with_reducible refine gate_callee (f := 6) rfl ?_); refine gl 35 Try.func6 #[.agg #[.int .i64 a1_0, .int .i64 a1_1, .int .i64 a1_2]] ?_; (with_reducible refine (laws_toLattice.calls _ _ _ _ _ _ _ A12.out).mono ?_); rintro e w23 ⟨rfl, hb⟩; refine ⟨_, rfl, ?_⟩; replace HO601 := asd (Kd.R_below (kr HO601) hb); replace HO606 := asd (Kd.R_below (kr HO606) hb); replace BK594 := bB BK594 hb; replace HB := bS1 HB GE594 hb; (try clear hb); obtain ⟨Ao24, co24, eo24⟩ := Kd.R_slice HO606.out; subst eo24) | ((with_reducible refine gate_callee (f := 8) rfl ?_); refine gl 38 Try.func8 #[.int .i64 a0, .agg #[.int .i64 t607, .int .i64 t608, .int .i64 t609], .slice Ao24 t604.length co24, .int .i64 a3] ?_; (with_reducible refine (impl_CountCentres.calls _ _ _ _ _ (fun k_ => some k_ = (.slice Ao24 t604.length co24 : Value).ownBlock) _ _ _ _ _ _ _ ?side1 A13.out).mono ?_); (case side1 => exact Kd.R_V (Kd.R_tight rfl (Kd.R_types (HO606.out) BK594.out (by decide)))); rintro e w25 ⟨rfl, hb⟩; refine ⟨_, rfl, ?_⟩; replace HO601 := asd (Kd.R_below (kr HO601) hb); replace HO606 := asd (Kd.R_below (kr HO606) hb); replace BK594 := bB BK594 hb; replace HB := bS1 HB GE594 hb; (try clear hb)))
  (try simp only [Act.put, sA, sB, sC])
  go_cut [48] (fun v48 wc => ∃ (kq : Nat) (x48_13 : Bool), v48 = .bool x48_13 ∧ Aside0 (laws_FnExactCountCentres.j0 kq l2 t604 x48_13 = some true) ∧ Aside0 (kq ≤ k) ∧ Aside0 (Kd.R k44 44 wc w.heap.size (fun _ => True) (.slice Ao24 t604.length co24) t604) ∧ Aside0 (wc.heap[gb594]? = some (.cells #[.int .i64 a1_0, .int .i64 a1_1, .int .i64 a1_2] 23 (0, 0))) ∧ Aside0 (Below w.heap.size w wc))
  case first =>
   have H := HC14.out
   clear HC14
   by_cases c26 : t610 = t602
   ·rw [if_pos c26] at H
    have c26b0 : (t610 == t602) = true := beq_iff_eq.mpr c26
    have c26b1 : (t610 != t602) = false := bne_eq_false_iff_eq.mpr c26
    clear c26
    (first | rw [c26b0] | (simp only [i64_w, i32_w]; rw [c26b0]) | skip)
    have H' := Aside0.mk H
    clear H
    go_wp2
    go_meet
    case rel => exact ⟨_, ((t611 != t603)), (by first | rfl | (simp; done) | (simp [*]; done)), H', ⟨by first | omega | exact Nat.le_refl _⟩, ⟨by (with_reducible repeat (first | apply Kd.R_alloc | apply Kd.R_drewN | apply Kd.R_drew)); exact Kd.R_mono HO606.out (fun _ hk => trivial)⟩, ⟨bkp BK594⟩, ⟨bbw1 HB GE594⟩⟩
   ·rw [if_neg c26] at H
    have c26b0 : (t610 == t602) = false := beq_eq_false_iff_ne.mpr c26
    have c26b1 : (t610 != t602) = true := bne_iff_ne.mpr c26
    (first | rw [c26b0] | (simp only [i64_w, i32_w]; rw [c26b0]) | skip)
    exact absurd H (laws_FnExactCountCentres.j0_dead _ _ _)
  case rest =>
   clear HC14
   try clear c2
   try clear p2
   try clear c3
   try clear c4
   try clear c5
   try clear c6
   try clear c6b0
   try clear c7
   try clear c8
   try clear c26
   try clear c26b0
   try clear c26b1
   try clear hcz16_0
   try clear hcz16_1
   try clear hcz16_2
   try clear hcz22_0
   try clear hcz22_1
   try clear hcz22_2
   try clear hfz16_0
   try clear hfz16_1
   try clear hfz16_2
   try clear hfz22_0
   try clear hfz22_1
   try clear hfz22_2
   obtain ⟨kq, x48_13, rfl, HA, HJ13, HO_12, BK594, HB⟩ := hcut
   cases kq with
   | zero => exact absurd HA.out (by simp [laws_FnExactCountCentres.j0])
   | succ kj13 =>
    have H := HA.out
    clear HA
    simp only [laws_FnExactCountCentres.j0] at H
    by_cases c27 : x48_13 = true
    ·subst c27
     replace H := ifT H
     exact absurd H (by simp)
    ·replace c27 := Bool.eq_false_iff.mpr c27
     subst c27
     replace H := ifF H
     obtain ⟨t612, A28, H⟩ := ob H
     try dsimp only at H
     obtain ⟨t615, A29, H⟩ := ob H
     try dsimp only at H
     by_cases c30 : t615 = true
     ·subst c30
      replace H := ifT H
      clear H
      go_wp2_with (first | ((with_reducible refine gate_callee (f := 7) rfl ?_); refine gl 51 Try.func7 #[.slice A2 l2.length c2] ?_; (with_reducible refine (laws_toMotionS.calls _ _ _ _ _ _ ?side1 ?side2 A28.out).mono ?_); (case side1 => exact ks (Kd.C_below HR2.out HB.out)); (case side2 => exact HC2.out); rintro e w31 ⟨v613, rfl, ho0, hb⟩; refine ⟨_, rfl, ?_⟩; have HO614 := asd (Kd.R_lower (Kd.R_new' ho0 (Kd.R_lt (kr HO_12))) (bsz1 HB GE594)); replace HO_12 := asd (Kd.R_elder' (kr HO_12) (Kd.R_base ho0) hb); replace BK594 := bB BK594 hb; replace HB := bS1 HB GE594 hb; (try clear hb); (try clear hb2); (try clear hk); (try clear hi); (try clear ho0); obtain ⟨Ao32, co32, eo32⟩ := Kd.R_slice HO614.out; subst eo32) | ((with_reducible refine gate_callee (f := 9) rfl ?_); refine gl 52 Try.func9 #[.slice Ao24 t604.length co24, .slice Ao32 t612.length co32] ?_; (with_reducible refine (laws_eqMotionS.calls _ _ _ _ _ _ _ _ _ ?side1 ?side2 ?side3 ?side4 A29.out).mono ?_); (case side1 => exact ks (Kd.R_reads' HO_12.out).2.2); (case side2 => exact (Kd.R_reads' HO_12.out).2.1); (case side3 => exact ks (Kd.R_reads' HO614.out).2.2); (case side4 => exact (Kd.R_reads' HO614.out).2.1); rintro e w33 ⟨rfl, hb⟩; refine ⟨_, rfl, ?_⟩; replace HO_12 := asd (Kd.R_below (kr HO_12) hb); replace HO614 := asd (Kd.R_below (kr HO614) hb); replace BK594 := bB BK594 hb; replace HB := bS1 HB GE594 hb; (try clear hb)))
      go_ret
      exact er (bbw1 HB GE594)
     ·replace c30 := Bool.eq_false_iff.mpr c30
      subst c30
      replace H := ifF H
      exact absurd H (by simp)

/-- The one plain statement of laws_FnExactCountCentres. -/
def laws_FnExactCountCentres.Pure : Prop := ∀ (a0 : Int) (a1_0 : Int) (a1_1 : Int) (a1_2 : Int) (l2 : List (S49)) (a3 : Int), (Lit.int .i64 a0).wf = true → (Lit.int .i64 a1_0).wf = true → (Lit.int .i64 a1_1).wf = true → (Lit.int .i64 a1_2).wf = true → l2.length ≤ maxLen → (∀ x ∈ l2, (Lit.int .i64 x.f0.f0).wf = true ∧ (Lit.int .i64 x.f0.f1).wf = true ∧ (Lit.int .i64 x.f0.f2).wf = true ∧ (Lit.int .i64 x.f0.f3).wf = true ∧ (Lit.int .i64 x.f1.f0).wf = true ∧ (Lit.int .i64 x.f1.f1).wf = true) → (Lit.int .i64 a3).wf = true → ∃ k, laws_FnExactCountCentres.f k a0 a1_0 a1_1 a1_2 l2 a3 = some true
end Go.Proofs.Ytfmjboloeabjmaa.PA
