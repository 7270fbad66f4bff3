/- Walks written by program: each Go function that the law reaches comes to the plain function beside it. -/
import Derived.Test.YtcchmdodifkloaaPAx0
import Derived.Test.YtcchmdodifkloaaPAx2
import Derived.Test.YtcchmdodifkloaaPAx6
namespace Go.Proofs.Ytcchmdodifkloaa.PA
open Go.RowKit Go.Proofs.YtcchmdodifkloaaW.PrintWords Go.Proofs.YtcchmdodifkloaaW.PrintLast Go.Proofs.YtcchmdodifkloaaW.PrintMore
attribute [local go_sem] max2_int min2_int max_two min_two max_three min_three max_four min_four   -- for this text's walks alone
set_option linter.unusedVariables false
set_option linter.unusedSimpArgs false

attribute [local go_sem high] eqA51
/-! ### spec_l06Code: function 39 -/
def spec_l06Code.f (a0 : Int) (a1_0 : Int) (a1_1 : Int) (a1_2 : Int) (a2 : Bool) : Option (Int) := (spec_l04Code.f a0 a1_0 a1_1 a1_2).bind fun t325 => (if t325 = 0 then (if a2 = true then (some t325) else (some 2)) else (some t325))
set_option maxHeartbeats 8000000 in
set_option maxRecDepth 100000 in
theorem spec_l06Code.calls (a0 : Int) (a1_0 : Int) (a1_1 : Int) (a1_2 : Int) (a2 : Bool) (r : Int) (w : World) (h : spec_l06Code.f a0 a1_0 a1_1 a1_2 a2 = some r) :
  Calls Try.prog 39 #[.int .i64 a0, .agg #[.int .i64 a1_0, .int .i64 a1_1, .int .i64 a1_2], .bool a2] w fun e w' => e = .returned (.int .i64 r) ∧ Below w.heap.size w w' := by
 have hu27 := Try.underlying27
 have HB := asd (Below.refl w.heap.size w)
 have H : ((spec_l04Code.f a0 a1_0 a1_1 a1_2).bind fun t325 => (if t325 = 0 then (if a2 = true then (some t325) else (some 2)) else (some t325))) = some r := h
 clear h
 obtain ⟨t325, A4, H⟩ := ob H
 replace H : (if t325 = 0 then (if a2 = true then (some t325) else (some 2)) else (some t325)) = some r := H
 by_cases c5 : t325 = 0
 ·rw [if_pos c5] at H
  have c5b0 : (t325 == 0) = true := beq_iff_eq.mpr c5
  have c5b1 : (t325 != 0) = false := bne_eq_false_iff_eq.mpr c5
  clear c5
  by_cases c6 : a2 = true
  ·subst c6
   have H1 : (some t325) = some r := by rw [if_pos rfl] at H; first | done | exact H
   clear H
   have H := H1
   clear H1
   obtain rfl := Option.some.inj H
   go_enter Try.func39, Try.ntmps39
   go_wp2_with (first | ((with_reducible refine gd 4 rfl ?_); refine bx #[.int .i64 a1_0, .int .i64 a1_1, .int .i64 a1_2] 27 ?_; intro gb324 hg w7 BK324 hb; have GE324 := ngw0 hg HB; replace HB := bS0 HB hb; clear hb hg; obtain ⟨hcz8_0, hcz8_1, hcz8_2, hfz8_0, hfz8_1, hfz8_2⟩ := bz3 BK324) | ((with_reducible refine gate_callee (f := 56) rfl ?_); refine gl 10 Try.func56 #[.int .i64 a0, .agg #[.int .i64 a1_0, .int .i64 a1_1, .int .i64 a1_2]] ?_; (with_reducible refine (spec_l04Code.calls _ _ _ _ _ _ A4.out).mono ?_); rintro e w9 ⟨rfl, hb⟩; refine ⟨_, rfl, ?_⟩; replace BK324 := bB BK324 hb; replace HB := bS1 HB GE324 hb; (try clear hb)))
   go_ret
   exact er (bbw1 HB GE324)
  ·replace c6 := Bool.eq_false_iff.mpr c6
   subst c6
   have H1 : (some 2) = some r := by rw [if_neg (show ¬ (false = true) by decide)] at H; first | done | exact H
   clear H
   have H := H1
   clear H1
   obtain rfl := Option.some.inj H
   go_enter Try.func39, Try.ntmps39
   go_wp2_with (first | ((with_reducible refine gd 4 rfl ?_); refine bx #[.int .i64 a1_0, .int .i64 a1_1, .int .i64 a1_2] 27 ?_; intro gb324 hg w10 BK324 hb; have GE324 := ngw0 hg HB; replace HB := bS0 HB hb; clear hb hg; obtain ⟨hcz11_0, hcz11_1, hcz11_2, hfz11_0, hfz11_1, hfz11_2⟩ := bz3 BK324) | ((with_reducible refine gate_callee (f := 56) rfl ?_); refine gl 10 Try.func56 #[.int .i64 a0, .agg #[.int .i64 a1_0, .int .i64 a1_1, .int .i64 a1_2]] ?_; (with_reducible refine (spec_l04Code.calls _ _ _ _ _ _ A4.out).mono ?_); rintro e w12 ⟨rfl, hb⟩; refine ⟨_, rfl, ?_⟩; replace BK324 := bB BK324 hb; replace HB := bS1 HB GE324 hb; (try clear hb)))
   go_ret
   exact er (bbw1 HB GE324)
 ·rw [if_neg c5] at H
  have c5b0 : (t325 == 0) = false := beq_eq_false_iff_ne.mpr c5
  have c5b1 : (t325 != 0) = true := bne_iff_ne.mpr c5
  obtain rfl := Option.some.inj H
  go_enter Try.func39, Try.ntmps39
  go_wp2_with (first | ((with_reducible refine gd 4 rfl ?_); refine bx #[.int .i64 a1_0, .int .i64 a1_1, .int .i64 a1_2] 27 ?_; intro gb324 hg w13 BK324 hb; have GE324 := ngw0 hg HB; replace HB := bS0 HB hb; clear hb hg; obtain ⟨hcz14_0, hcz14_1, hcz14_2, hfz14_0, hfz14_1, hfz14_2⟩ := bz3 BK324) | ((with_reducible refine gate_callee (f := 56) rfl ?_); refine gl 10 Try.func56 #[.int .i64 a0, .agg #[.int .i64 a1_0, .int .i64 a1_1, .int .i64 a1_2]] ?_; (with_reducible refine (spec_l04Code.calls _ _ _ _ _ _ A4.out).mono ?_); rintro e w15 ⟨rfl, hb⟩; refine ⟨_, rfl, ?_⟩; replace BK324 := bB BK324 hb; replace HB := bS1 HB GE324 hb; (try clear hb)))
  go_ret
  exact er (bbw1 HB GE324)

/-! ### impl_within: function 108 -/
def impl_within.f (a0 : Int) (a1 : Int) (a2 : Int) : Option (Bool) := if a0 ≥ a1 then (some (decide (a0 ≤ a2))) else (some false)
set_option maxHeartbeats 8000000 in
set_option maxRecDepth 100000 in
theorem impl_within.calls (a0 : Int) (a1 : Int) (a2 : Int) (r : Bool) (w : World) (h : impl_within.f a0 a1 a2 = some r) :
  Calls Try.prog 108 #[.int .i64 a0, .int .i64 a1, .int .i64 a2] w fun e w' => e = .returned (.bool r) ∧ Drawn0 w w' := by
 have H : (if a0 ≥ a1 then (some (decide (a0 ≤ a2))) else (some false)) = some r := h
 clear h
 by_cases c4 : a0 ≥ a1
 ·rw [if_pos c4] at H
  have c4b0 : decide (a1 ≤ a0) = true := decide_eq_true c4
  clear c4
  obtain rfl := Option.some.inj H
  go_enter Try.func108, Try.ntmps108
  go_wp2
  go_ret
  exact ⟨by first | rfl | (simp; done) | (simp [*]; done), by repeat (first | exact Drawn0.refl _ | apply Drawn0.step)⟩
 ·rw [if_neg c4] at H
  have c4b0 : decide (a1 ≤ a0) = false := decide_eq_false c4
  clear c4
  obtain rfl := Option.some.inj H
  go_enter Try.func108, Try.ntmps108
  go_wp2
  go_ret
  exact ⟨by first | rfl | (simp; done) | (simp [*]; done), by repeat (first | exact Drawn0.refl _ | apply Drawn0.step)⟩

/-! ### impl_IsFrame: function 93 -/
def impl_IsFrame.f (a0 : Int) : Option (Bool) := (impl_within.f a0 0 1).bind fun t345 => (some t345)
set_option maxHeartbeats 8000000 in
set_option maxRecDepth 100000 in
theorem impl_IsFrame.calls (a0 : Int) (r : Bool) (w : World) (h : impl_IsFrame.f a0 = some r) :
  Calls Try.prog 93 #[.int .i64 a0] w fun e w' => e = .returned (.bool r) ∧ Drawn0 w w' := by
 have H : ((impl_within.f a0 0 1).bind fun t345 => (some t345)) = some r := h
 clear h
 obtain ⟨t345, A2, H⟩ := ob H
 replace H : (some t345) = some r := H
 obtain rfl := Option.some.inj H
 go_enter Try.func93, Try.ntmps93
 go_wp2_with (first | ((with_reducible refine gate_callee (f := 108) rfl ?_); refine gl 4 Try.func108 #[.int .i64 a0, .int .i64 0, .int .i64 1] ?_; (with_reducible refine (impl_within.calls _ _ _ _ _ A2.out).mono ?_); rintro e w' ⟨rfl, ⟨nd, rfl⟩⟩; refine ⟨_, rfl, ?_⟩))
 go_ret
 exact ⟨by first | rfl | (simp; done) | (simp [*]; done), by repeat (first | exact Drawn0.refl _ | apply Drawn0.step)⟩

/-! ### impl_Lattice_index: function 109 -/
def impl_Lattice_index.f (a0_0 : Int) (a0_1 : Int) (a0_2 : Int) : Option (Int) := some (wrap64 (a0_0 * a0_2))
set_option maxHeartbeats 8000000 in
set_option maxRecDepth 100000 in
theorem impl_Lattice_index.calls (a0_0 : Int) (a0_1 : Int) (a0_2 : Int) (r : Int) (w : World) (h : impl_Lattice_index.f a0_0 a0_1 a0_2 = some r) :
  Calls Try.prog 109 #[.agg #[.int .i64 a0_0, .int .i64 a0_1, .int .i64 a0_2]] w fun e w' => e = .returned (.int .i64 r) ∧ Below w.heap.size w w' := by
 have hu27 := Try.underlying27
 have HB := asd (Below.refl w.heap.size w)
 have H : (some (wrap64 (a0_0 * a0_2))) = some r := h
 clear h
 obtain rfl := Option.some.inj H
 go_enter Try.func109, Try.ntmps109
 go_wp2_with (first | ((with_reducible refine gd 1 rfl ?_); refine bx #[.int .i64 a0_0, .int .i64 a0_1, .int .i64 a0_2] 27 ?_; intro gb346 hg w2 BK346 hb; have GE346 := ngw0 hg HB; replace HB := bS0 HB hb; clear hb hg; obtain ⟨hcz3_0, hcz3_1, hcz3_2, hfz3_0, hfz3_1, hfz3_2⟩ := bz3 BK346))
 go_ret
 exact er (bbw1 HB GE346)

/-! ### impl_IsLattice: function 94 -/
def impl_IsLattice.f (a0_0 : Int) (a0_1 : Int) (a0_2 : Int) : Option (Bool) := (impl_within.f a0_0 1 64).bind fun t348 => (if t348 = true then ((impl_within.f a0_2 1 64).bind fun t349 => (if t349 = true then ((impl_within.f a0_1 0 (wrap64 (a0_0 - 1))).bind fun t350 => (if t350 = true then ((impl_Lattice_index.f a0_0 a0_1 a0_2).bind fun t351 => (some (decide (t351 ≤ 64)))) else (some false))) else (some false))) else (some false))
set_option maxHeartbeats 8000000 in
set_option maxRecDepth 100000 in
theorem impl_IsLattice.calls (a0_0 : Int) (a0_1 : Int) (a0_2 : Int) (r : Bool) (w : World) (h : impl_IsLattice.f a0_0 a0_1 a0_2 = some r) :
  Calls Try.prog 94 #[.agg #[.int .i64 a0_0, .int .i64 a0_1, .int .i64 a0_2]] w fun e w' => e = .returned (.bool r) ∧ Below w.heap.size w w' := by
 have hu27 := Try.underlying27
 have HB := asd (Below.refl w.heap.size w)
 have H : ((impl_within.f a0_0 1 64).bind fun t348 => (if t348 = true then ((impl_within.f a0_2 1 64).bind fun t349 => (if t349 = true then ((impl_within.f a0_1 0 (wrap64 (a0_0 - 1))).bind fun t350 => (if t350 = true then ((impl_Lattice_index.f a0_0 a0_1 a0_2).bind fun t351 => (some (decide (t351 ≤ 64)))) else (some false))) else (some false))) else (some false))) = some r := h
 clear h
 obtain ⟨t348, A2, H⟩ := ob H
 replace H : (if t348 = true then ((impl_within.f a0_2 1 64).bind fun t349 => (if t349 = true then ((impl_within.f a0_1 0 (wrap64 (a0_0 - 1))).bind fun t350 => (if t350 = true then ((impl_Lattice_index.f a0_0 a0_1 a0_2).bind fun t351 => (some (decide (t351 ≤ 64)))) else (some false))) else (some false))) else (some false)) = some r := H
 by_cases c3 : t348 = true
 ·subst c3
  have H1 : ((impl_within.f a0_2 1 64).bind fun t349 => (if t349 = true then ((impl_within.f a0_1 0 (wrap64 (a0_0 - 1))).bind fun t350 => (if t350 = true then ((impl_Lattice_index.f a0_0 a0_1 a0_2).bind fun t351 => (some (decide (t351 ≤ 64)))) else (some false))) else (some false))) = some r := by rw [if_pos rfl] at H; first | done | exact H
  clear H
  have H := H1
  clear H1
  obtain ⟨t349, A4, H⟩ := ob H
  replace H : (if t349 = true then ((impl_within.f a0_1 0 (wrap64 (a0_0 - 1))).bind fun t350 => (if t350 = true then ((impl_Lattice_index.f a0_0 a0_1 a0_2).bind fun t351 => (some (decide (t351 ≤ 64)))) else (some false))) else (some false)) = some r := H
  by_cases c5 : t349 = true
  ·subst c5
   have H1 : ((impl_within.f a0_1 0 (wrap64 (a0_0 - 1))).bind fun t350 => (if t350 = true then ((impl_Lattice_index.f a0_0 a0_1 a0_2).bind fun t351 => (some (decide (t351 ≤ 64)))) else (some false))) = some r := by rw [if_pos rfl] at H; first | done | exact H
   clear H
   have H := H1
   clear H1
   obtain ⟨t350, A6, H⟩ := ob H
   replace H : (if t350 = true then ((impl_Lattice_index.f a0_0 a0_1 a0_2).bind fun t351 => (some (decide (t351 ≤ 64)))) else (some false)) = some r := H
   by_cases c7 : t350 = true
   ·subst c7
    have H1 : ((impl_Lattice_index.f a0_0 a0_1 a0_2).bind fun t351 => (some (decide (t351 ≤ 64)))) = some r := by rw [if_pos rfl] at H; first | done | exact H
    clear H
    have H := H1
    clear H1
    obtain ⟨t351, A8, H⟩ := ob H
    replace H : (some (decide (t351 ≤ 64))) = some r := H
    obtain rfl := Option.some.inj H
    go_enter Try.func94, Try.ntmps94
    go_wp2_with (first | ((with_reducible refine gd 1 rfl ?_); refine bx #[.int .i64 a0_0, .int .i64 a0_1, .int .i64 a0_2] 27 ?_; intro gb347 hg w9 BK347 hb; have GE347 := ngw0 hg HB; replace HB := bS0 HB hb; clear hb hg; obtain ⟨hcz10_0, hcz10_1, hcz10_2, hfz10_0, hfz10_1, hfz10_2⟩ := bz3 BK347) | ((with_reducible refine gate_callee (f := 108) rfl ?_); refine gl 5 Try.func108 #[.int .i64 a0_0, .int .i64 1, .int .i64 64] ?_; (with_reducible refine (impl_within.calls _ _ _ _ _ A2.out).mono ?_); rintro e w' ⟨rfl, ⟨nd, rfl⟩⟩; refine ⟨_, rfl, ?_⟩) | (go_at_call 108; (with_reducible refine (impl_within.calls _ _ _ _ _ A4.out).mono ?_); rintro e w' ⟨rfl, ⟨nd, rfl⟩⟩) | (go_at_call 108; (with_reducible refine (impl_within.calls _ _ _ _ _ A6.out).mono ?_); rintro e w' ⟨rfl, ⟨nd, rfl⟩⟩) | (go_at_call 109; (with_reducible refine (impl_Lattice_index.calls _ _ _ _ _ A8.out).mono ?_); rintro e w11 ⟨rfl, hb⟩; replace BK347 := bB BK347 hb; replace HB := bS1 HB GE347 hb; (try clear hb)))
    go_ret
    exact er (bbw1 HB GE347)
   ·replace c7 := Bool.eq_false_iff.mpr c7
    subst c7
    have H1 : (some false) = some r := by rw [if_neg (show ¬ (false = true) by decide)] at H; first | done | exact H
    clear H
    have H := H1
    clear H1
    obtain rfl := Option.some.inj H
    go_enter Try.func94, Try.ntmps94
    go_wp2_with (first | ((with_reducible refine gd 1 rfl ?_); refine bx #[.int .i64 a0_0, .int .i64 a0_1, .int .i64 a0_2] 27 ?_; intro gb347 hg w12 BK347 hb; have GE347 := ngw0 hg HB; replace HB := bS0 HB hb; clear hb hg; obtain ⟨hcz13_0, hcz13_1, hcz13_2, hfz13_0, hfz13_1, hfz13_2⟩ := bz3 BK347) | ((with_reducible refine gate_callee (f := 108) rfl ?_); refine gl 5 Try.func108 #[.int .i64 a0_0, .int .i64 1, .int .i64 64] ?_; (with_reducible refine (impl_within.calls _ _ _ _ _ A2.out).mono ?_); rintro e w' ⟨rfl, ⟨nd, rfl⟩⟩; refine ⟨_, rfl, ?_⟩) | (go_at_call 108; (with_reducible refine (impl_within.calls _ _ _ _ _ A4.out).mono ?_); rintro e w' ⟨rfl, ⟨nd, rfl⟩⟩) | (go_at_call 108; (with_reducible refine (impl_within.calls _ _ _ _ _ A6.out).mono ?_); rintro e w' ⟨rfl, ⟨nd, rfl⟩⟩))
    go_ret
    exact er (bbw1 HB GE347)
  ·replace c5 := Bool.eq_false_iff.mpr c5
   subst c5
   have H1 : (some false) = some r := by rw [if_neg (show ¬ (false = true) by decide)] at H; first | done | exact H
   clear H
   have H := H1
   clear H1
   obtain rfl := Option.some.inj H
   go_enter Try.func94, Try.ntmps94
   go_wp2_with (first | ((with_reducible refine gd 1 rfl ?_); refine bx #[.int .i64 a0_0, .int .i64 a0_1, .int .i64 a0_2] 27 ?_; intro gb347 hg w14 BK347 hb; have GE347 := ngw0 hg HB; replace HB := bS0 HB hb; clear hb hg; obtain ⟨hcz15_0, hcz15_1, hcz15_2, hfz15_0, hfz15_1, hfz15_2⟩ := bz3 BK347) | ((with_reducible refine gate_callee (f := 108) rfl ?_); refine gl 5 Try.func108 #[.int .i64 a0_0, .int .i64 1, .int .i64 64] ?_; (with_reducible refine (impl_within.calls _ _ _ _ _ A2.out).mono ?_); rintro e w' ⟨rfl, ⟨nd, rfl⟩⟩; refine ⟨_, rfl, ?_⟩) | (go_at_call 108; (with_reducible refine (impl_within.calls _ _ _ _ _ A4.out).mono ?_); rintro e w' ⟨rfl, ⟨nd, rfl⟩⟩))
   go_ret
   exact er (bbw1 HB GE347)
 ·replace c3 := Bool.eq_false_iff.mpr c3
  subst c3
  have H1 : (some false) = some r := by rw [if_neg (show ¬ (false = true) by decide)] at H; first | done | exact H
  clear H
  have H := H1
  clear H1
  obtain rfl := Option.some.inj H
  go_enter Try.func94, Try.ntmps94
  go_wp2_with (first | ((with_reducible refine gd 1 rfl ?_); refine bx #[.int .i64 a0_0, .int .i64 a0_1, .int .i64 a0_2] 27 ?_; intro gb347 hg w16 BK347 hb; have GE347 := ngw0 hg HB; replace HB := bS0 HB hb; clear hb hg; obtain ⟨hcz17_0, hcz17_1, hcz17_2, hfz17_0, hfz17_1, hfz17_2⟩ := bz3 BK347) | ((with_reducible refine gate_callee (f := 108) rfl ?_); refine gl 5 Try.func108 #[.int .i64 a0_0, .int .i64 1, .int .i64 64] ?_; (with_reducible refine (impl_within.calls _ _ _ _ _ A2.out).mono ?_); rintro e w' ⟨rfl, ⟨nd, rfl⟩⟩; refine ⟨_, rfl, ?_⟩))
  go_ret
  exact er (bbw1 HB GE347)

/-! ### impl_frameCode: function 63 -/
def impl_frameCode.f (a0 : Int) (a1_0 : Int) (a1_1 : Int) (a1_2 : Int) : Option (Int) := (impl_IsFrame.f a0).bind fun t353 => (if t353 = true then ((impl_IsLattice.f a1_0 a1_1 a1_2).bind fun t354 => (if t354 = true then (some 0) else (some 1))) else (some 1))
set_option maxHeartbeats 8000000 in
set_option maxRecDepth 100000 in
theorem impl_frameCode.calls (a0 : Int) (a1_0 : Int) (a1_1 : Int) (a1_2 : Int) (r : Int) (w : World) (h : impl_frameCode.f a0 a1_0 a1_1 a1_2 = some r) :
  Calls Try.prog 63 #[.int .i64 a0, .agg #[.int .i64 a1_0, .int .i64 a1_1, .int .i64 a1_2]] w fun e w' => e = .returned (.int .i64 r) ∧ Below w.heap.size w w' := by
 have hu27 := Try.underlying27
 have HB := asd (Below.refl w.heap.size w)
 have H : ((impl_IsFrame.f a0).bind fun t353 => (if t353 = true then ((impl_IsLattice.f a1_0 a1_1 a1_2).bind fun t354 => (if t354 = true then (some 0) else (some 1))) else (some 1))) = some r := h
 clear h
 obtain ⟨t353, A3, H⟩ := ob H
 replace H : (if t353 = true then ((impl_IsLattice.f a1_0 a1_1 a1_2).bind fun t354 => (if t354 = true then (some 0) else (some 1))) else (some 1)) = some r := H
 by_cases c4 : t353 = true
 ·subst c4
  have H1 : ((impl_IsLattice.f a1_0 a1_1 a1_2).bind fun t354 => (if t354 = true then (some 0) else (some 1))) = some r := by rw [if_pos rfl] at H; first | done | exact H
  clear H
  have H := H1
  clear H1
  obtain ⟨t354, A5, H⟩ := ob H
  replace H : (if t354 = true then (some 0) else (some 1)) = some r := H
  by_cases c6 : t354 = true
  ·subst c6
   have H1 : (some 0) = some r := by rw [if_pos rfl] at H; first | done | exact H
   clear H
   have H := H1
   clear H1
   obtain rfl := Option.some.inj H
   go_enter Try.func63, Try.ntmps63
   go_wp2_with (first | ((with_reducible refine gd 3 rfl ?_); refine bx #[.int .i64 a1_0, .int .i64 a1_1, .int .i64 a1_2] 27 ?_; intro gb352 hg w7 BK352 hb; have GE352 := ngw0 hg HB; replace HB := bS0 HB hb; clear hb hg) | ((with_reducible refine gate_callee (f := 93) rfl ?_); refine gl 6 Try.func93 #[.int .i64 a0] ?_; (with_reducible refine (impl_IsFrame.calls _ _ _ A3.out).mono ?_); rintro e w' ⟨rfl, ⟨nd, rfl⟩⟩; refine ⟨_, rfl, ?_⟩; have hcz8_0 : w7.cell? ⟨gb352, 0, none⟩ = some (.int .i64 a1_0) := bcl BK352 0; have hcz8_1 : w7.cell? ⟨gb352, 1, none⟩ = some (.int .i64 a1_1) := bcl BK352 1; have hcz8_2 : w7.cell? ⟨gb352, 2, none⟩ = some (.int .i64 a1_2) := bcl BK352 2; have hfz8_0 := blk_frozen BK352.out 0; have hfz8_1 := blk_frozen BK352.out 1; have hfz8_2 := blk_frozen BK352.out 2) | (go_at_call 94; (with_reducible refine (impl_IsLattice.calls _ _ _ _ _ A5.out).mono ?_); rintro e w9 ⟨rfl, hb⟩; replace BK352 := bB BK352 hb; replace HB := bS1 HB GE352 hb; (try clear hb)))
   go_ret
   exact er (bbw1 HB GE352)
  ·replace c6 := Bool.eq_false_iff.mpr c6
   subst c6
   have H1 : (some 1) = some r := by rw [if_neg (show ¬ (false = true) by decide)] at H; first | done | exact H
   clear H
   have H := H1
   clear H1
   obtain rfl := Option.some.inj H
   go_enter Try.func63, Try.ntmps63
   go_wp2_with (first | ((with_reducible refine gd 3 rfl ?_); refine bx #[.int .i64 a1_0, .int .i64 a1_1, .int .i64 a1_2] 27 ?_; intro gb352 hg w10 BK352 hb; have GE352 := ngw0 hg HB; replace HB := bS0 HB hb; clear hb hg) | ((with_reducible refine gate_callee (f := 93) rfl ?_); refine gl 6 Try.func93 #[.int .i64 a0] ?_; (with_reducible refine (impl_IsFrame.calls _ _ _ A3.out).mono ?_); rintro e w' ⟨rfl, ⟨nd, rfl⟩⟩; refine ⟨_, rfl, ?_⟩; have hcz11_0 : w10.cell? ⟨gb352, 0, none⟩ = some (.int .i64 a1_0) := bcl BK352 0; have hcz11_1 : w10.cell? ⟨gb352, 1, none⟩ = some (.int .i64 a1_1) := bcl BK352 1; have hcz11_2 : w10.cell? ⟨gb352, 2, none⟩ = some (.int .i64 a1_2) := bcl BK352 2; have hfz11_0 := blk_frozen BK352.out 0; have hfz11_1 := blk_frozen BK352.out 1; have hfz11_2 := blk_frozen BK352.out 2) | (go_at_call 94; (with_reducible refine (impl_IsLattice.calls _ _ _ _ _ A5.out).mono ?_); rintro e w12 ⟨rfl, hb⟩; replace BK352 := bB BK352 hb; replace HB := bS1 HB GE352 hb; (try clear hb)))
   go_ret
   exact er (bbw1 HB GE352)
 ·replace c4 := Bool.eq_false_iff.mpr c4
  subst c4
  have H1 : (some 1) = some r := by rw [if_neg (show ¬ (false = true) by decide)] at H; first | done | exact H
  clear H
  have H := H1
  clear H1
  obtain rfl := Option.some.inj H
  go_enter Try.func63, Try.ntmps63
  go_wp2_with (first | ((with_reducible refine gd 3 rfl ?_); refine bx #[.int .i64 a1_0, .int .i64 a1_1, .int .i64 a1_2] 27 ?_; intro gb352 hg w13 BK352 hb; have GE352 := ngw0 hg HB; replace HB := bS0 HB hb; clear hb hg) | ((with_reducible refine gate_callee (f := 93) rfl ?_); refine gl 6 Try.func93 #[.int .i64 a0] ?_; (with_reducible refine (impl_IsFrame.calls _ _ _ A3.out).mono ?_); rintro e w' ⟨rfl, ⟨nd, rfl⟩⟩; refine ⟨_, rfl, ?_⟩))
  go_ret
  exact er (bbw1 HB GE352)

/-! ### impl_Mat_times: function 80 -/
def impl_Mat_times.f (a0_0 : Int) (a0_1 : Int) (a0_2 : Int) (a0_3 : Int) (a1_0 : Int) (a1_1 : Int) (a1_2 : Int) (a1_3 : Int) : Option (Int × Int × Int × Int) := some (wrap64 ((wrap64 (a0_0 * a1_0)) + (wrap64 (a0_1 * a1_2))), wrap64 ((wrap64 (a0_0 * a1_1)) + (wrap64 (a0_1 * a1_3))), wrap64 ((wrap64 (a0_2 * a1_0)) + (wrap64 (a0_3 * a1_2))), wrap64 ((wrap64 (a0_2 * a1_1)) + (wrap64 (a0_3 * a1_3))))
set_option maxHeartbeats 8000000 in
set_option maxRecDepth 100000 in
theorem impl_Mat_times.calls (a0_0 : Int) (a0_1 : Int) (a0_2 : Int) (a0_3 : Int) (a1_0 : Int) (a1_1 : Int) (a1_2 : Int) (a1_3 : Int) (r1 : Int) (r2 : Int) (r3 : Int) (r4 : Int) (w : World) (h : impl_Mat_times.f a0_0 a0_1 a0_2 a0_3 a1_0 a1_1 a1_2 a1_3 = some (r1, r2, r3, r4)) :
  Calls Try.prog 80 #[.agg #[.int .i64 a0_0, .int .i64 a0_1, .int .i64 a0_2, .int .i64 a0_3], .agg #[.int .i64 a1_0, .int .i64 a1_1, .int .i64 a1_2, .int .i64 a1_3]] w fun e w' => e = .returned (.agg #[.int .i64 r1, .int .i64 r2, .int .i64 r3, .int .i64 r4]) ∧ Below w.heap.size w w' := by
 have hu51 := Try.underlying51
 have HB := asd (Below.refl w.heap.size w)
 have H : (some (wrap64 ((wrap64 (a0_0 * a1_0)) + (wrap64 (a0_1 * a1_2))), wrap64 ((wrap64 (a0_0 * a1_1)) + (wrap64 (a0_1 * a1_3))), wrap64 ((wrap64 (a0_2 * a1_0)) + (wrap64 (a0_3 * a1_2))), wrap64 ((wrap64 (a0_2 * a1_1)) + (wrap64 (a0_3 * a1_3))))) = some (r1, r2, r3, r4) := h
 clear h
 simp only [Option.some.injEq, Prod.mk.injEq] at H
 obtain ⟨rfl, rfl, rfl, rfl⟩ := H
 go_enter Try.func80, Try.ntmps80
 go_wp2_with (first | ((with_reducible refine gd 2 rfl ?_); refine bx #[.int .i64 a0_0, .int .i64 a0_1, .int .i64 a0_2, .int .i64 a0_3] 51 ?_; intro gb355 hg w3 BK355 hb; have GE355 := ngw0 hg HB; replace HB := bS0 HB hb; clear hb hg) | ((with_reducible refine gd 3 rfl ?_); refine bx #[.int .i64 a1_0, .int .i64 a1_1, .int .i64 a1_2, .int .i64 a1_3] 51 ?_; intro gb356 hg w4 BK356 hb; have GE356 := ngw1 hg HB GE355; replace HB := bS1 HB GE355 hb; have NB355_356 := nlt hg BK355; have NB356_355 := nsy (nlt hg BK355); replace BK355 := bB BK355 hb; clear hb hg) | ((with_reducible refine gd 4 rfl ?_); refine bx #[.int .i64 0, .int .i64 0, .int .i64 0, .int .i64 0] 51 ?_; intro gb357 hg w5 BK357 hb; have GE357 := ngw2 hg HB GE355 GE356; replace HB := bS2 HB GE355 GE356 hb; have NB355_357 := nlt hg BK355; have NB357_355 := nsy (nlt hg BK355); replace BK355 := bB BK355 hb; have NB356_357 := nlt hg BK356; have NB357_356 := nsy (nlt hg BK356); replace BK356 := bB BK356 hb; clear hb hg; have hnb6 := NB355_356.out; have hnc6 := NB356_355.out; have hnb7 := NB355_357.out; have hnc7 := NB357_355.out; obtain ⟨hcz8_0, hcz8_1, hcz8_2, hcz8_3, hfz8_0, hfz8_1, hfz8_2, hfz8_3⟩ := bz4 BK355; have hnb9 := NB356_357.out; have hnc9 := NB357_356.out; obtain ⟨hcz10_0, hcz10_1, hcz10_2, hcz10_3, hfz10_0, hfz10_1, hfz10_2, hfz10_3⟩ := bz4 BK356; obtain ⟨hcz11_0, hcz11_1, hcz11_2, hcz11_3, hfz11_0, hfz11_1, hfz11_2, hfz11_3⟩ := bz4 BK357))
 refine bodyPost_ret (results_cell_row rfl _ _ gb357 51 #[.int .i64 (wrap64 ((wrap64 (a0_0 * a1_0)) + (wrap64 (a0_1 * a1_2)))), .int .i64 (wrap64 ((wrap64 (a0_0 * a1_1)) + (wrap64 (a0_1 * a1_3)))), .int .i64 (wrap64 ((wrap64 (a0_2 * a1_0)) + (wrap64 (a0_3 * a1_2)))), .int .i64 (wrap64 ((wrap64 (a0_2 * a1_1)) + (wrap64 (a0_3 * a1_3))))] (0, 0) _ rfl (bq0 BK357) Try.underlying51 rfl (by kernel_rfl)) rfl ?_
 exact er (bbw3 HB GE355 GE356 GE357)

/-! ### impl_Mat_apply: function 81 -/
def impl_Mat_apply.f (a0_0 : Int) (a0_1 : Int) (a0_2 : Int) (a0_3 : Int) (a1_0 : Int) (a1_1 : Int) : Option (Int × Int) := some (wrap64 ((wrap64 (a0_0 * a1_0)) + (wrap64 (a0_1 * a1_1))), wrap64 ((wrap64 (a0_2 * a1_0)) + (wrap64 (a0_3 * a1_1))))
set_option maxHeartbeats 8000000 in
set_option maxRecDepth 100000 in
theorem impl_Mat_apply.calls (a0_0 : Int) (a0_1 : Int) (a0_2 : Int) (a0_3 : Int) (a1_0 : Int) (a1_1 : Int) (r1 : Int) (r2 : Int) (w : World) (h : impl_Mat_apply.f a0_0 a0_1 a0_2 a0_3 a1_0 a1_1 = some (r1, r2)) :
  Calls Try.prog 81 #[.agg #[.int .i64 a0_0, .int .i64 a0_1, .int .i64 a0_2, .int .i64 a0_3], .agg #[.int .i64 a1_0, .int .i64 a1_1]] w fun e w' => e = .returned (.agg #[.int .i64 r1, .int .i64 r2]) ∧ Below w.heap.size w w' := by
 have hu51 := Try.underlying51
 have hu53 := Try.underlying53
 have HB := asd (Below.refl w.heap.size w)
 have H : (some (wrap64 ((wrap64 (a0_0 * a1_0)) + (wrap64 (a0_1 * a1_1))), wrap64 ((wrap64 (a0_2 * a1_0)) + (wrap64 (a0_3 * a1_1))))) = some (r1, r2) := h
 clear h
 simp only [Option.some.injEq, Prod.mk.injEq] at H
 obtain ⟨rfl, rfl⟩ := H
 go_enter Try.func81, Try.ntmps81
 go_wp2_with (first | ((with_reducible refine gd 2 rfl ?_); refine bx #[.int .i64 a0_0, .int .i64 a0_1, .int .i64 a0_2, .int .i64 a0_3] 51 ?_; intro gb358 hg w3 BK358 hb; have GE358 := ngw0 hg HB; replace HB := bS0 HB hb; clear hb hg) | ((with_reducible refine gd 3 rfl ?_); refine bx #[.int .i64 a1_0, .int .i64 a1_1] 53 ?_; intro gb359 hg w4 BK359 hb; have GE359 := ngw1 hg HB GE358; replace HB := bS1 HB GE358 hb; have NB358_359 := nlt hg BK358; have NB359_358 := nsy (nlt hg BK358); replace BK358 := bB BK358 hb; clear hb hg) | ((with_reducible refine gd 4 rfl ?_); refine bx #[.int .i64 0, .int .i64 0] 53 ?_; intro gb360 hg w5 BK360 hb; have GE360 := ngw2 hg HB GE358 GE359; replace HB := bS2 HB GE358 GE359 hb; have NB358_360 := nlt hg BK358; have NB360_358 := nsy (nlt hg BK358); replace BK358 := bB BK358 hb; have NB359_360 := nlt hg BK359; have NB360_359 := nsy (nlt hg BK359); replace BK359 := bB BK359 hb; clear hb hg; have hnb6 := NB358_359.out; have hnc6 := NB359_358.out; have hnb7 := NB358_360.out; have hnc7 := NB360_358.out; obtain ⟨hcz8_0, hcz8_1, hcz8_2, hcz8_3, hfz8_0, hfz8_1, hfz8_2, hfz8_3⟩ := bz4 BK358; have hnb9 := NB359_360.out; have hnc9 := NB360_359.out; obtain ⟨hcz10_0, hcz10_1, hfz10_0, hfz10_1⟩ := bz2 BK359; obtain ⟨hcz11_0, hcz11_1, hfz11_0, hfz11_1⟩ := bz2 BK360))
 refine bodyPost_ret (results_cell_row rfl _ _ gb360 53 #[.int .i64 (wrap64 ((wrap64 (a0_0 * a1_0)) + (wrap64 (a0_1 * a1_1)))), .int .i64 (wrap64 ((wrap64 (a0_2 * a1_0)) + (wrap64 (a0_3 * a1_1))))] (0, 0) _ rfl (bq0 BK360) Try.underlying53 rfl (by kernel_rfl)) rfl ?_
 exact er (bbw3 HB GE358 GE359 GE360)

/-! ### impl_Vec_add: function 82 -/
def impl_Vec_add.f (a0_0 : Int) (a0_1 : Int) (a1_0 : Int) (a1_1 : Int) : Option (Int × Int) := some (wrap64 (a0_0 + a1_0), wrap64 (a0_1 + a1_1))
set_option maxHeartbeats 8000000 in
set_option maxRecDepth 100000 in
theorem impl_Vec_add.calls (a0_0 : Int) (a0_1 : Int) (a1_0 : Int) (a1_1 : Int) (r1 : Int) (r2 : Int) (w : World) (h : impl_Vec_add.f a0_0 a0_1 a1_0 a1_1 = some (r1, r2)) :
  Calls Try.prog 82 #[.agg #[.int .i64 a0_0, .int .i64 a0_1], .agg #[.int .i64 a1_0, .int .i64 a1_1]] w fun e w' => e = .returned (.agg #[.int .i64 r1, .int .i64 r2]) ∧ Below w.heap.size w w' := by
 have hu53 := Try.underlying53
 have HB := asd (Below.refl w.heap.size w)
 have H : (some (wrap64 (a0_0 + a1_0), wrap64 (a0_1 + a1_1))) = some (r1, r2) := h
 clear h
 simp only [Option.some.injEq, Prod.mk.injEq] at H
 obtain ⟨rfl, rfl⟩ := H
 go_enter Try.func82, Try.ntmps82
 go_wp2_with (first | ((with_reducible refine gd 2 rfl ?_); refine bx #[.int .i64 a0_0, .int .i64 a0_1] 53 ?_; intro gb361 hg w3 BK361 hb; have GE361 := ngw0 hg HB; replace HB := bS0 HB hb; clear hb hg) | ((with_reducible refine gd 3 rfl ?_); refine bx #[.int .i64 a1_0, .int .i64 a1_1] 53 ?_; intro gb362 hg w4 BK362 hb; have GE362 := ngw1 hg HB GE361; replace HB := bS1 HB GE361 hb; have NB361_362 := nlt hg BK361; have NB362_361 := nsy (nlt hg BK361); replace BK361 := bB BK361 hb; clear hb hg) | ((with_reducible refine gd 4 rfl ?_); refine bx #[.int .i64 0, .int .i64 0] 53 ?_; intro gb363 hg w5 BK363 hb; have GE363 := ngw2 hg HB GE361 GE362; replace HB := bS2 HB GE361 GE362 hb; have NB361_363 := nlt hg BK361; have NB363_361 := nsy (nlt hg BK361); replace BK361 := bB BK361 hb; have NB362_363 := nlt hg BK362; have NB363_362 := nsy (nlt hg BK362); replace BK362 := bB BK362 hb; clear hb hg; have hnb6 := NB361_362.out; have hnc6 := NB362_361.out; have hnb7 := NB361_363.out; have hnc7 := NB363_361.out; obtain ⟨hcz8_0, hcz8_1, hfz8_0, hfz8_1⟩ := bz2 BK361; have hnb9 := NB362_363.out; have hnc9 := NB363_362.out; obtain ⟨hcz10_0, hcz10_1, hfz10_0, hfz10_1⟩ := bz2 BK362; obtain ⟨hcz11_0, hcz11_1, hfz11_0, hfz11_1⟩ := bz2 BK363))
 refine bodyPost_ret (results_cell_row rfl _ _ gb363 53 #[.int .i64 (wrap64 (a0_0 + a1_0)), .int .i64 (wrap64 (a0_1 + a1_1))] (0, 0) _ rfl (bq0 BK363) Try.underlying53 rfl (by kernel_rfl)) rfl ?_
 exact er (bbw3 HB GE361 GE362 GE363)

/-! ### impl_Motion_times: function 51 -/
def impl_Motion_times.f (a0_0 : Int) (a0_1 : Int) (a0_2 : Int) (a0_3 : Int) (a0_4 : Int) (a0_5 : Int) (a1_0 : Int) (a1_1 : Int) (a1_2 : Int) (a1_3 : Int) (a1_4 : Int) (a1_5 : Int) : Option (Int × Int × Int × Int × Int × Int) := (impl_Mat_times.f a0_0 a0_1 a0_2 a0_3 a1_0 a1_1 a1_2 a1_3).bind fun bt367 => ((impl_Mat_apply.f a0_0 a0_1 a0_2 a0_3 a1_4 a1_5).bind fun bt371 => ((impl_Vec_add.f bt371.1 bt371.2 a0_4 a0_5).bind fun bt373 => (some (bt367.1, bt367.2.1, bt367.2.2.1, bt367.2.2.2, bt373.1, bt373.2))))
def impl_Motion_times.T1 : Bool × List (List Nat × List Nat) := (true, [([], []), ([0], [0]), ([], []), ([2], [2]), ([1, 3], [1, 3]), ([], []), ([5], [5]), ([], []), ([7], [7]), ([6, 8, 4], [6, 8]), ([], []), ([10], [10]), ([9, 11, 9], [9, 11]), ([4, 12], [4, 12]), ([13, 12, 0, 1, 2, 3, 4, 5, 6, 7, 8, 9, 10, 11, 12, 13], [13])])
def impl_Motion_times.B1 : List Nat := [0, 1, 0, 4, 15, 0, 32, 0, 128, 511, 0, 1024, 4095, 8191, 16383]
theorem impl_Motion_times.tab1 : rtab .any (opsOf Try.f51 1) = impl_Motion_times.T1 := by kernel_rfl
theorem impl_Motion_times.bits1 : waitsOk impl_Motion_times.T1.2 impl_Motion_times.B1 = true := by kernel_rfl
set_option maxHeartbeats 8000000 in
set_option maxRecDepth 100000 in
theorem impl_Motion_times.calls (a0_0 : Int) (a0_1 : Int) (a0_2 : Int) (a0_3 : Int) (a0_4 : Int) (a0_5 : Int) (a1_0 : Int) (a1_1 : Int) (a1_2 : Int) (a1_3 : Int) (a1_4 : Int) (a1_5 : Int) (r1 : Int) (r2 : Int) (r3 : Int) (r4 : Int) (r5 : Int) (r6 : Int) (w : World) (h : impl_Motion_times.f a0_0 a0_1 a0_2 a0_3 a0_4 a0_5 a1_0 a1_1 a1_2 a1_3 a1_4 a1_5 = some (r1, r2, r3, r4, r5, r6)) :
  Calls Try.prog 51 #[.agg #[.int .i64 a0_0, .int .i64 a0_1, .int .i64 a0_2, .int .i64 a0_3, .int .i64 a0_4, .int .i64 a0_5], .agg #[.int .i64 a1_0, .int .i64 a1_1, .int .i64 a1_2, .int .i64 a1_3, .int .i64 a1_4, .int .i64 a1_5]] w fun e w' => e = .returned (.agg #[.int .i64 r1, .int .i64 r2, .int .i64 r3, .int .i64 r4, .int .i64 r5, .int .i64 r6]) ∧ Below w.heap.size w w' := by
 have hu55 := Try.underlying55
 have hu51 := Try.underlying51
 have hu53 := Try.underlying53
 have HB := asd (Below.refl w.heap.size w)
 have H : ((impl_Mat_times.f a0_0 a0_1 a0_2 a0_3 a1_0 a1_1 a1_2 a1_3).bind fun bt367 => ((impl_Mat_apply.f a0_0 a0_1 a0_2 a0_3 a1_4 a1_5).bind fun bt371 => ((impl_Vec_add.f bt371.1 bt371.2 a0_4 a0_5).bind fun bt373 => (some (bt367.1, bt367.2.1, bt367.2.2.1, bt367.2.2.2, bt373.1, bt373.2))))) = some (r1, r2, r3, r4, r5, r6) := h
 clear h
 obtain ⟨⟨t367, t368, t369, t370⟩, A3, H⟩ := ob H
 replace H : ((impl_Mat_apply.f a0_0 a0_1 a0_2 a0_3 a1_4 a1_5).bind fun bt371 => ((impl_Vec_add.f bt371.1 bt371.2 a0_4 a0_5).bind fun bt373 => (some (t367, t368, t369, t370, bt373.1, bt373.2)))) = some (r1, r2, r3, r4, r5, r6) := H
 obtain ⟨⟨t371, t372⟩, A4, H⟩ := ob H
 replace H : ((impl_Vec_add.f t371 t372 a0_4 a0_5).bind fun bt373 => (some (t367, t368, t369, t370, bt373.1, bt373.2))) = some (r1, r2, r3, r4, r5, r6) := H
 obtain ⟨⟨t373, t374⟩, A5, H⟩ := ob H
 replace H : (some (t367, t368, t369, t370, t373, t374)) = some (r1, r2, r3, r4, r5, r6) := H
 simp only [Option.some.injEq, Prod.mk.injEq] at H
 obtain ⟨rfl, rfl, rfl, rfl, rfl, rfl⟩ := H
 go_enter Try.func51, Try.ntmps51
 try go_wp2_with (first | ((with_reducible refine gd 2 rfl ?_); refine bx #[.int .i64 a0_0, .int .i64 a0_1, .int .i64 a0_2, .int .i64 a0_3, .int .i64 a0_4, .int .i64 a0_5] 55 ?_; intro gb364 hg w6 BK364 hb; have GE364 := ngw0 hg HB; replace HB := bS0 HB hb; clear hb hg) | ((with_reducible refine gd 3 rfl ?_); refine bx #[.int .i64 a1_0, .int .i64 a1_1, .int .i64 a1_2, .int .i64 a1_3, .int .i64 a1_4, .int .i64 a1_5] 55 ?_; intro gb365 hg w7 BK365 hb; have GE365 := ngw1 hg HB GE364; replace HB := bS1 HB GE364 hb; have NB364_365 := nlt hg BK364; have NB365_364 := nsy (nlt hg BK364); replace BK364 := bB BK364 hb; clear hb hg) | ((with_reducible refine gd 4 rfl ?_); refine bx #[.int .i64 0, .int .i64 0, .int .i64 0, .int .i64 0, .int .i64 0, .int .i64 0] 55 ?_; intro gb366 hg w8 BK366 hb; have GE366 := ngw2 hg HB GE364 GE365; replace HB := bS2 HB GE364 GE365 hb; have NB364_366 := nlt hg BK364; have NB366_364 := nsy (nlt hg BK364); replace BK364 := bB BK364 hb; have NB365_366 := nlt hg BK365; have NB366_365 := nsy (nlt hg BK365); replace BK365 := bB BK365 hb; clear hb hg))
 replace BK364 := asd (blk_drew BK364.out)
 replace BK365 := asd (blk_drew BK365.out)
 replace BK366 := asd (blk_drew BK366.out)
 replace HB := asd (below_drew1 HB.out)
 refine start_ (n := 15) (S := fun w' => w'.cell? ⟨gb364, 0, none⟩ = some (.int .i64 a0_0) ∧ w'.cell? ⟨gb364, 1, none⟩ = some (.int .i64 a0_1) ∧ w'.cell? ⟨gb364, 2, none⟩ = some (.int .i64 a0_2) ∧ w'.cell? ⟨gb364, 3, none⟩ = some (.int .i64 a0_3) ∧ w'.cell? ⟨gb364, 4, none⟩ = some (.int .i64 a0_4) ∧ w'.cell? ⟨gb364, 5, none⟩ = some (.int .i64 a0_5) ∧ w'.cell? ⟨gb365, 0, none⟩ = some (.int .i64 a1_0) ∧ w'.cell? ⟨gb365, 1, none⟩ = some (.int .i64 a1_1) ∧ w'.cell? ⟨gb365, 2, none⟩ = some (.int .i64 a1_2) ∧ w'.cell? ⟨gb365, 3, none⟩ = some (.int .i64 a1_3) ∧ w'.cell? ⟨gb365, 4, none⟩ = some (.int .i64 a1_4) ∧ w'.cell? ⟨gb365, 5, none⟩ = some (.int .i64 a1_5)) (ds := []) (bt 15 0) (by kernel_rfl) rfl rfl ⟨bcl BK364 0, bcl BK364 1, bcl BK364 2, bcl BK364 3, bcl BK364 4, bcl BK364 5, bcl BK365 0, bcl BK365 1, bcl BK365 2, bcl BK365 3, bcl BK365 4, bcl BK365 5⟩ (fun hHeld => ?_); refine with_tabW impl_Motion_times.tab1 impl_Motion_times.bits1 (fun HT_ HW_ => ?_)
 generalize w8.drew = w9 at BK364 BK365 BK366 HB hHeld ⊢
 refine pu 0 (some 5) (bt 15 1) HT_ ?_
 refine pu 2 (some 7) (bs 15 5) HT_ ?_
 refine pu 5 (some 10) (bs 15 37) HT_ ?_
 refine pu 7 (some 12) (bs 15 165) HT_ ?_
 refine pu 10 (some 15) (bs 15 1189) HT_ ?_
 refine ta 1 (some 6) (bs 15 1191) HT_ HW_ hHeld ?_
 refine ta 3 (some 8) (bs 15 1199) HT_ HW_ hHeld ?_
 refine ta 6 (some 11) (bs 15 1263) HT_ HW_ hHeld ?_
 refine ta 8 (some 13) (bs 15 1519) HT_ HW_ hHeld ?_
 refine ta 11 (some 16) (bs 15 3567) HT_ HW_ hHeld ?_
 refine ro 4 (some 9) (bs 15 3583) HT_ (fun K hK => ?_)
 refine gs Try.func80 #[.agg #[.int .i64 a0_0, .int .i64 a0_1, .int .i64 a0_2, .int .i64 a0_3], .agg #[.int .i64 a1_0, .int .i64 a1_1, .int .i64 a1_2, .int .i64 a1_3]] ?_
 with_reducible refine (impl_Mat_times.calls _ _ _ _ _ _ _ _ _ _ _ _ _ A3.out).mono ?_
 rintro e w10 ⟨rfl, hb⟩
 refine ⟨_, rfl, ?_⟩
 replace BK364 := bB BK364 hb
 replace BK365 := bB BK365 hb
 replace BK366 := bB BK366 hb
 replace HB := bS3 HB GE364 GE365 GE366 hb
 (try clear hb)
 (try clear hb2)
 (try clear hk)
 (try clear hi)
 refine hK.out _ _ ⟨bcl BK364 0, bcl BK364 1, bcl BK364 2, bcl BK364 3, bcl BK364 4, bcl BK364 5, bcl BK365 0, bcl BK365 1, bcl BK365 2, bcl BK365 3, bcl BK365 4, bcl BK365 5⟩ (fun hHeld => ?_)
 clear hK K
 refine norm_ (a' := ?_) ?_ ?_
 rotate_left
 ·show Act.put _ (some 9) _ = _
  simp only [Act.put, sA, sB, sC, i64_w, i32_w]
  rfl
 refine ro 9 (some 14) (bt 15 12) HT_ (fun K hK => ?_)
 refine gs Try.func81 #[.agg #[.int .i64 a0_0, .int .i64 a0_1, .int .i64 a0_2, .int .i64 a0_3], .agg #[.int .i64 a1_4, .int .i64 a1_5]] ?_
 with_reducible refine (impl_Mat_apply.calls _ _ _ _ _ _ _ _ _ A4.out).mono ?_
 rintro e w11 ⟨rfl, hb⟩
 refine ⟨_, rfl, ?_⟩
 replace BK364 := bB BK364 hb
 replace BK365 := bB BK365 hb
 replace BK366 := bB BK366 hb
 replace HB := bS3 HB GE364 GE365 GE366 hb
 (try clear hb)
 (try clear hb2)
 (try clear hk)
 (try clear hi)
 refine hK.out _ _ ⟨bcl BK364 0, bcl BK364 1, bcl BK364 2, bcl BK364 3, bcl BK364 4, bcl BK364 5, bcl BK365 0, bcl BK365 1, bcl BK365 2, bcl BK365 3, bcl BK365 4, bcl BK365 5⟩ (fun hHeld => ?_)
 clear hK K
 refine norm_ (a' := ?_) ?_ ?_
 rotate_left
 ·show Act.put _ (some 14) _ = _
  simp only [Act.put, sA, sB, sC, i64_w, i32_w]
  rfl
 refine ro 12 (some 17) (bt 15 13) HT_ (fun K hK => ?_)
 refine gs Try.func82 #[.agg #[.int .i64 t371, .int .i64 t372], .agg #[.int .i64 a0_4, .int .i64 a0_5]] ?_
 with_reducible refine (impl_Vec_add.calls _ _ _ _ _ _ _ A5.out).mono ?_
 rintro e w12 ⟨rfl, hb⟩
 refine ⟨_, rfl, ?_⟩
 replace BK364 := bB BK364 hb
 replace BK365 := bB BK365 hb
 replace BK366 := bB BK366 hb
 replace HB := bS3 HB GE364 GE365 GE366 hb
 (try clear hb)
 (try clear hb2)
 (try clear hk)
 (try clear hi)
 refine hK.out _ _ ⟨bcl BK364 0, bcl BK364 1, bcl BK364 2, bcl BK364 3, bcl BK364 4, bcl BK364 5, bcl BK365 0, bcl BK365 1, bcl BK365 2, bcl BK365 3, bcl BK365 4, bcl BK365 5⟩ (fun hHeld => ?_)
 clear hK K
 refine norm_ (a' := ?_) ?_ ?_
 rotate_left
 ·show Act.put _ (some 17) _ = _
  simp only [Act.put, sA, sB, sC, i64_w, i32_w]
  rfl
 refine pu 13 (some 18) (bt 15 14) HT_ ?_
 refine ro 14 (none) (bt 15 15) HT_ (fun K hK => ?_)
 have hs13 : w12.cell? ⟨gb366, 0, none⟩ = some (.int .i64 0) := bcl BK366 0
 have hfs13 := blk_frozen BK366.out 0
 have hns13_0 := NB364_366.out
 have hns13_1 := NB365_366.out
 have hms13_0 := NB366_364.out
 have hms13_1 := NB366_365.out
 have hs14 : w12.cell? ⟨gb366, 1, none⟩ = some (.int .i64 0) := bcl BK366 1
 have hfs14 := blk_frozen BK366.out 1
 have hns14_0 := NB364_366.out
 have hns14_1 := NB365_366.out
 have hms14_0 := NB366_364.out
 have hms14_1 := NB366_365.out
 have hs15 : w12.cell? ⟨gb366, 2, none⟩ = some (.int .i64 0) := bcl BK366 2
 have hfs15 := blk_frozen BK366.out 2
 have hns15_0 := NB364_366.out
 have hns15_1 := NB365_366.out
 have hms15_0 := NB366_364.out
 have hms15_1 := NB366_365.out
 have hs16 : w12.cell? ⟨gb366, 3, none⟩ = some (.int .i64 0) := bcl BK366 3
 have hfs16 := blk_frozen BK366.out 3
 have hns16_0 := NB364_366.out
 have hns16_1 := NB365_366.out
 have hms16_0 := NB366_364.out
 have hms16_1 := NB366_365.out
 have hs17 : w12.cell? ⟨gb366, 4, none⟩ = some (.int .i64 0) := bcl BK366 4
 have hfs17 := blk_frozen BK366.out 4
 have hns17_0 := NB364_366.out
 have hns17_1 := NB365_366.out
 have hms17_0 := NB366_364.out
 have hms17_1 := NB366_365.out
 have hs18 : w12.cell? ⟨gb366, 5, none⟩ = some (.int .i64 0) := bcl BK366 5
 have hfs18 := blk_frozen BK366.out 5
 have hns18_0 := NB364_366.out
 have hns18_1 := NB365_366.out
 have hms18_0 := NB366_364.out
 have hms18_1 := NB366_365.out
 refine skip_ (w1 := ?_) (by rfl) rfl ?_ ?_
 rotate_left
 ·go_simp
  rfl
 refine hK.out _ _ ⟨(cf NB364_366 ((cf NB364_366 ((cf NB364_366 ((cf NB364_366 ((cf NB364_366 ((cf NB364_366 (hHeld.1)))))))))))), (cf NB364_366 ((cf NB364_366 ((cf NB364_366 ((cf NB364_366 ((cf NB364_366 ((cf NB364_366 (hHeld.2.1)))))))))))), (cf NB364_366 ((cf NB364_366 ((cf NB364_366 ((cf NB364_366 ((cf NB364_366 ((cf NB364_366 (hHeld.2.2.1)))))))))))), (cf NB364_366 ((cf NB364_366 ((cf NB364_366 ((cf NB364_366 ((cf NB364_366 ((cf NB364_366 (hHeld.2.2.2.1)))))))))))), (cf NB364_366 ((cf NB364_366 ((cf NB364_366 ((cf NB364_366 ((cf NB364_366 ((cf NB364_366 (hHeld.2.2.2.2.1)))))))))))), (cf NB364_366 ((cf NB364_366 ((cf NB364_366 ((cf NB364_366 ((cf NB364_366 ((cf NB364_366 (hHeld.2.2.2.2.2.1)))))))))))), (cf NB365_366 ((cf NB365_366 ((cf NB365_366 ((cf NB365_366 ((cf NB365_366 ((cf NB365_366 (hHeld.2.2.2.2.2.2.1)))))))))))), (cf NB365_366 ((cf NB365_366 ((cf NB365_366 ((cf NB365_366 ((cf NB365_366 ((cf NB365_366 (hHeld.2.2.2.2.2.2.2.1)))))))))))), (cf NB365_366 ((cf NB365_366 ((cf NB365_366 ((cf NB365_366 ((cf NB365_366 ((cf NB365_366 (hHeld.2.2.2.2.2.2.2.2.1)))))))))))), (cf NB365_366 ((cf NB365_366 ((cf NB365_366 ((cf NB365_366 ((cf NB365_366 ((cf NB365_366 (hHeld.2.2.2.2.2.2.2.2.2.1)))))))))))), (cf NB365_366 ((cf NB365_366 ((cf NB365_366 ((cf NB365_366 ((cf NB365_366 ((cf NB365_366 (hHeld.2.2.2.2.2.2.2.2.2.2.1)))))))))))), (cf NB365_366 ((cf NB365_366 ((cf NB365_366 ((cf NB365_366 ((cf NB365_366 ((cf NB365_366 (hHeld.2.2.2.2.2.2.2.2.2.2.2))))))))))))⟩ (fun hHeld => ?_)
 clear hK K
 refine done_ (done_of HT_.out (by kernel_rfl)) ?_
 try go_wp2
 refine bodyPost_ret (results_cell_row rfl _ _ gb366 55 #[.int .i64 t367, .int .i64 t368, .int .i64 t369, .int .i64 t370, .int .i64 t373, .int .i64 t374] (0, 0) _ rfl (bq0 BK366) Try.underlying55 rfl (by kernel_rfl)) rfl ?_
 exact er (bbw3 HB GE364 GE365 GE366)

/-! ### impl_unit: function 72 -/
def impl_unit.f  : Option (Int × Int × Int × Int) := some (1, 0, 0, 1)
set_option maxHeartbeats 8000000 in
set_option maxRecDepth 100000 in
theorem impl_unit.calls  (r1 : Int) (r2 : Int) (r3 : Int) (r4 : Int) (w : World) (h : impl_unit.f  = some (r1, r2, r3, r4)) :
  Calls Try.prog 72 #[] w fun e w' => e = .returned (.agg #[.int .i64 r1, .int .i64 r2, .int .i64 r3, .int .i64 r4]) ∧ Below w.heap.size w w' := by
 have hu51 := Try.underlying51
 have HB := asd (Below.refl w.heap.size w)
 have H : (some (1, 0, 0, 1)) = some (r1, r2, r3, r4) := h
 clear h
 simp only [Option.some.injEq, Prod.mk.injEq] at H
 obtain ⟨rfl, rfl, rfl, rfl⟩ := H
 go_enter Try.func72, Try.ntmps72
 go_wp2_with (first | ((with_reducible refine gd 0 rfl ?_); refine bx #[.int .i64 0, .int .i64 0, .int .i64 0, .int .i64 0] 51 ?_; intro gb375 hg w1 BK375 hb; have GE375 := ngw0 hg HB; replace HB := bS0 HB hb; clear hb hg; obtain ⟨hcz2_0, hcz2_1, hcz2_2, hcz2_3, hfz2_0, hfz2_1, hfz2_2, hfz2_3⟩ := bz4 BK375))
 refine bodyPost_ret (results_cell_row rfl _ _ gb375 51 #[.int .i64 1, .int .i64 0, .int .i64 0, .int .i64 1] (0, 0) _ rfl (bq0 BK375) Try.underlying51 rfl (by kernel_rfl)) rfl ?_
 exact er (bbw1 HB GE375)

/-! ### impl_mod: function 116 -/
def impl_mod.f (a0 : Int) (a1 : Int) : Option (Int) := if a1 = 0 then (none) else (some (Int.tmod (wrap64 ((Int.tmod a0 a1) + a1)) a1))
set_option maxHeartbeats 8000000 in
set_option maxRecDepth 100000 in
theorem impl_mod.calls (a0 : Int) (a1 : Int) (r : Int) (w : World) (h : impl_mod.f a0 a1 = some r) :
  Calls Try.prog 116 #[.int .i64 a0, .int .i64 a1] w fun e w' => e = .returned (.int .i64 r) ∧ Drawn0 w w' := by
 have H : (if a1 = 0 then (none) else (some (Int.tmod (wrap64 ((Int.tmod a0 a1) + a1)) a1))) = some r := h
 clear h
 by_cases c3 : a1 = 0
 ·rw [if_pos c3] at H
  exact absurd H (by simp)
 ·rw [if_neg c3] at H
  have c3b0 : (a1 == 0) = false := beq_eq_false_iff_ne.mpr c3
  have c3b1 : (a1 != 0) = true := bne_iff_ne.mpr c3
  obtain rfl := Option.some.inj H
  go_enter Try.func116, Try.ntmps116
  go_wp2
  go_ret
  exact ⟨by first | rfl | (simp; done) | (simp [*]; done), by repeat (first | exact Drawn0.refl _ | apply Drawn0.step)⟩

/-! ### impl_Lattice_reduce: function 97 -/
def impl_Lattice_reduce.f (a0_0 : Int) (a0_1 : Int) (a0_2 : Int) (a1_0 : Int) (a1_1 : Int) : Option (Int × Int) := (impl_mod.f a1_1 a0_2).bind fun t379 => (if a0_2 = 0 then (none) else ((impl_mod.f (wrap64 (a1_0 - (wrap64 ((wrap64 (Int.tdiv (wrap64 (a1_1 - t379)) a0_2)) * a0_1)))) a0_0).bind fun t380 => (some (t380, t379))))
def impl_Lattice_reduce.T2 : Bool × List (List Nat × List Nat) := (true, [([], []), ([0], [0]), ([], []), ([2], [2]), ([], []), ([3, 4], [3, 4]), ([], []), ([6], [6]), ([5, 7], [5, 7]), ([], []), ([9], [9]), ([8, 10], [8, 10]), ([1, 11], [1, 11]), ([], []), ([13], [13]), ([12, 14], [12, 14]), ([], []), ([15, 16], [15, 16]), ([17, 15, 0, 1, 2, 3, 4, 5, 6, 7, 8, 9, 10, 11, 12, 13, 14, 15, 16, 17], [17])])
def impl_Lattice_reduce.B2 : List Nat := [0, 1, 0, 4, 0, 28, 0, 64, 252, 0, 512, 2044, 4095, 0, 8192, 32767, 0, 131071, 262143]
theorem impl_Lattice_reduce.tab2 : rtab .any (opsOf Try.f97 2) = impl_Lattice_reduce.T2 := by kernel_rfl
theorem impl_Lattice_reduce.bits2 : waitsOk impl_Lattice_reduce.T2.2 impl_Lattice_reduce.B2 = true := by kernel_rfl
set_option maxHeartbeats 8000000 in
set_option maxRecDepth 100000 in
theorem impl_Lattice_reduce.calls (a0_0 : Int) (a0_1 : Int) (a0_2 : Int) (a1_0 : Int) (a1_1 : Int) (r1 : Int) (r2 : Int) (w : World) (h : impl_Lattice_reduce.f a0_0 a0_1 a0_2 a1_0 a1_1 = some (r1, r2)) :
  Calls Try.prog 97 #[.agg #[.int .i64 a0_0, .int .i64 a0_1, .int .i64 a0_2], .agg #[.int .i64 a1_0, .int .i64 a1_1]] w fun e w' => e = .returned (.agg #[.int .i64 r1, .int .i64 r2]) ∧ Below w.heap.size w w' := by
 have hu27 := Try.underlying27
 have hu53 := Try.underlying53
 have HB := asd (Below.refl w.heap.size w)
 have H : ((impl_mod.f a1_1 a0_2).bind fun t379 => (if a0_2 = 0 then (none) else ((impl_mod.f (wrap64 (a1_0 - (wrap64 ((wrap64 (Int.tdiv (wrap64 (a1_1 - t379)) a0_2)) * a0_1)))) a0_0).bind fun t380 => (some (t380, t379))))) = some (r1, r2) := h
 clear h
 obtain ⟨t379, A3, H⟩ := ob H
 replace H : (if a0_2 = 0 then (none) else ((impl_mod.f (wrap64 (a1_0 - (wrap64 ((wrap64 (Int.tdiv (wrap64 (a1_1 - t379)) a0_2)) * a0_1)))) a0_0).bind fun t380 => (some (t380, t379)))) = some (r1, r2) := H
 by_cases c4 : a0_2 = 0
 ·rw [if_pos c4] at H
  exact absurd H (by simp)
 ·rw [if_neg c4] at H
  have c4b0 : (a0_2 == 0) = false := beq_eq_false_iff_ne.mpr c4
  have c4b1 : (a0_2 != 0) = true := bne_iff_ne.mpr c4
  obtain ⟨t380, A5, H⟩ := ob H
  replace H : (some (t380, t379)) = some (r1, r2) := H
  simp only [Option.some.injEq, Prod.mk.injEq] at H
  obtain ⟨rfl, rfl⟩ := H
  go_enter Try.func97, Try.ntmps97
  try go_wp2_with (first | ((with_reducible refine gd 2 rfl ?_); refine bx #[.int .i64 a0_0, .int .i64 a0_1, .int .i64 a0_2] 27 ?_; intro gb376 hg w6 BK376 hb; have GE376 := ngw0 hg HB; replace HB := bS0 HB hb; clear hb hg) | ((with_reducible refine gd 3 rfl ?_); refine bx #[.int .i64 a1_0, .int .i64 a1_1] 53 ?_; intro gb377 hg w7 BK377 hb; have GE377 := ngw1 hg HB GE376; replace HB := bS1 HB GE376 hb; have NB376_377 := nlt hg BK376; have NB377_376 := nsy (nlt hg BK376); replace BK376 := bB BK376 hb; clear hb hg) | ((with_reducible refine gd 4 rfl ?_); refine bx #[.int .i64 0, .int .i64 0] 53 ?_; intro gb378 hg w8 BK378 hb; have GE378 := ngw2 hg HB GE376 GE377; replace HB := bS2 HB GE376 GE377 hb; have NB376_378 := nlt hg BK376; have NB378_376 := nsy (nlt hg BK376); replace BK376 := bB BK376 hb; have NB377_378 := nlt hg BK377; have NB378_377 := nsy (nlt hg BK377); replace BK377 := bB BK377 hb; clear hb hg; have hnb9 := NB377_376.out; have hnc9 := NB376_377.out; have hnb10 := NB377_378.out; have hnc10 := NB378_377.out; obtain ⟨hcz11_0, hcz11_1, hfz11_0, hfz11_1⟩ := bz2 BK377; have hnb12 := NB376_378.out; have hnc12 := NB378_376.out; obtain ⟨hcz13_0, hcz13_1, hcz13_2, hfz13_0, hfz13_1, hfz13_2⟩ := bz3 BK376) | ((with_reducible refine gate_callee (f := 116) rfl ?_); refine gl 10 Try.func116 #[.int .i64 a1_1, .int .i64 a0_2] ?_; (with_reducible refine (impl_mod.calls _ _ _ _ A3.out).mono ?_); rintro e w' ⟨rfl, ⟨nd, rfl⟩⟩; refine ⟨_, rfl, ?_⟩; (try (rw [drewN_self w8]; generalize hq_ : World.drewN w8 _ = w8; have n0_ : Aside0 (w8.heap[gb376]? = some (.cells #[.int .i64 a0_0, .int .i64 a0_1, .int .i64 a0_2] 27 (0, 0))) := ⟨by rw [← hq_]; exact (bkp BK376)⟩; have n1_ : Aside0 (w8.heap[gb377]? = some (.cells #[.int .i64 a1_0, .int .i64 a1_1] 53 (0, 0))) := ⟨by rw [← hq_]; exact (bkp BK377)⟩; have n2_ : Aside0 (w8.heap[gb378]? = some (.cells #[.int .i64 0, .int .i64 0] 53 (0, 0))) := ⟨by rw [← hq_]; exact (bkp BK378)⟩; have n3_ : Aside0 (Below w.heap.size w w8) := ⟨by rw [← hq_]; exact (bbw3 HB GE376 GE377 GE378)⟩; clear BK376 BK377 BK378 HB hq_; have BK376 := n0_; have BK377 := n1_; have BK378 := n2_; have HB := n3_; clear n0_ n1_ n2_ n3_))))
  replace BK376 := asd (blk_drew BK376.out)
  replace BK377 := asd (blk_drew BK377.out)
  replace BK378 := asd (blk_drew BK378.out)
  replace HB := asd (below_drew1 HB.out)
  refine start_ (n := 19) (S := fun w' => w'.cell? ⟨gb377, 0, none⟩ = some (.int .i64 a1_0) ∧ w'.cell? ⟨gb377, 1, none⟩ = some (.int .i64 a1_1) ∧ w'.cell? ⟨gb376, 0, none⟩ = some (.int .i64 a0_0) ∧ w'.cell? ⟨gb376, 1, none⟩ = some (.int .i64 a0_1) ∧ w'.cell? ⟨gb376, 2, none⟩ = some (.int .i64 a0_2)) (ds := []) (bt 19 0) (by kernel_rfl) rfl rfl ⟨bcl BK377 0, bcl BK377 1, bcl BK376 0, bcl BK376 1, bcl BK376 2⟩ (fun hHeld => ?_); refine with_tabW impl_Lattice_reduce.tab2 impl_Lattice_reduce.bits2 (fun HT_ HW_ => ?_)
  generalize w8.drew = w14 at BK376 BK377 BK378 HB hHeld ⊢
  refine pu 0 (some 11) (bt 19 1) HT_ ?_
  refine pu 2 (some 13) (bs 19 5) HT_ ?_
  refine pu 4 (some 15) (bs 19 21) HT_ ?_
  refine pu 6 (some 17) (bs 19 85) HT_ ?_
  refine pu 9 (some 20) (bs 19 597) HT_ ?_
  refine pu 13 (some 24) (bs 19 8789) HT_ ?_
  refine pu 16 (some 27) (bs 19 74325) HT_ ?_
  refine ta 1 (some 12) (bs 19 74327) HT_ HW_ hHeld ?_
  refine ta 3 (some 14) (bs 19 74335) HT_ HW_ hHeld ?_
  refine pu 5 (some 16) (bs 19 74367) HT_ ?_
  refine ta 7 (some 18) (bs 19 74495) HT_ HW_ hHeld ?_
  refine pu 8 (some 19) (bs 19 74751) HT_ ?_
  refine ta 10 (some 21) (bs 19 75775) HT_ HW_ hHeld ?_
  refine pu 11 (some 22) (bs 19 77823) HT_ ?_
  refine pu 12 (some 23) (bs 19 81919) HT_ ?_
  refine ta 14 (some 25) (bs 19 98303) HT_ HW_ hHeld ?_
  refine ro 15 (some 26) (bt 19 17) HT_ (fun K hK => ?_)
  refine gs Try.func116 #[.int .i64 (wrap64 (a1_0 - (wrap64 ((wrap64 (Int.tdiv (wrap64 (a1_1 - t379)) a0_2)) * a0_1)))), .int .i64 a0_0] ?_
  with_reducible refine (impl_mod.calls _ _ _ _ A5.out).mono ?_
  rintro e w' ⟨rfl, ⟨nd, rfl⟩⟩
  refine ⟨_, rfl, ?_⟩
  refine hK.out _ _ ⟨bcl BK377 0, bcl BK377 1, bcl BK376 0, bcl BK376 1, bcl BK376 2⟩ (fun hHeld => ?_)
  clear hK K
  refine norm_ (a' := ?_) ?_ ?_
  rotate_left
  ·show Act.put _ (some 26) _ = _
   simp only [Act.put, sA, sB, sC, i64_w, i32_w]
   rfl
  refine pu 17 (some 28) (bt 19 18) HT_ ?_
  refine ro 18 (none) (bt 19 19) HT_ (fun K hK => ?_)
  have hs15 : w14.cell? ⟨gb378, 0, none⟩ = some (.int .i64 0) := bcl BK378 0
  have hfs15 := blk_frozen BK378.out 0
  have hns15_0 := NB376_378.out
  have hns15_1 := NB377_378.out
  have hms15_0 := NB378_376.out
  have hms15_1 := NB378_377.out
  have hs16 : w14.cell? ⟨gb378, 1, none⟩ = some (.int .i64 0) := bcl BK378 1
  have hfs16 := blk_frozen BK378.out 1
  have hns16_0 := NB376_378.out
  have hns16_1 := NB377_378.out
  have hms16_0 := NB378_376.out
  have hms16_1 := NB378_377.out
  refine skip_ (w1 := ?_) (by rfl) rfl ?_ ?_
  rotate_left
  ·go_simp
   rfl
  refine hK.out _ _ ⟨(cf NB377_378 ((cf NB377_378 (hHeld.1)))), (cf NB377_378 ((cf NB377_378 (hHeld.2.1)))), (cf NB376_378 ((cf NB376_378 (hHeld.2.2.1)))), (cf NB376_378 ((cf NB376_378 (hHeld.2.2.2.1)))), (cf NB376_378 ((cf NB376_378 (hHeld.2.2.2.2))))⟩ (fun hHeld => ?_)
  clear hK K
  refine done_ (done_of HT_.out (by kernel_rfl)) ?_
  try go_wp2
  refine bodyPost_ret (results_cell_row rfl _ _ gb378 53 #[.int .i64 t380, .int .i64 t379] (0, 0) _ rfl (bq0 BK378) Try.underlying53 rfl (by kernel_rfl)) rfl ?_
  exact er (bbw3 HB GE376 GE377 GE378)

/-! ### impl_Lattice_reduceMotion: function 79 -/
def impl_Lattice_reduceMotion.f (a0_0 : Int) (a0_1 : Int) (a0_2 : Int) (a1_0 : Int) (a1_1 : Int) (a1_2 : Int) (a1_3 : Int) (a1_4 : Int) (a1_5 : Int) : Option (Int × Int × Int × Int × Int × Int) := (impl_Lattice_reduce.f a0_0 a0_1 a0_2 a1_4 a1_5).bind fun bt384 => (some (a1_0, a1_1, a1_2, a1_3, bt384.1, bt384.2))
def impl_Lattice_reduceMotion.T1 : Bool × List (List Nat × List Nat) := (true, [([], []), ([0], [0]), ([], []), ([], []), ([3], [3]), ([2, 4], [2, 4]), ([1, 5], [1, 5]), ([6, 5, 0, 1, 2, 3, 4, 5, 6], [6])])
def impl_Lattice_reduceMotion.B1 : List Nat := [0, 1, 0, 0, 8, 28, 63, 127]
theorem impl_Lattice_reduceMotion.tab1 : rtab .any (opsOf Try.f79 1) = impl_Lattice_reduceMotion.T1 := by kernel_rfl
theorem impl_Lattice_reduceMotion.bits1 : waitsOk impl_Lattice_reduceMotion.T1.2 impl_Lattice_reduceMotion.B1 = true := by kernel_rfl
set_option maxHeartbeats 8000000 in
set_option maxRecDepth 100000 in
theorem impl_Lattice_reduceMotion.calls (a0_0 : Int) (a0_1 : Int) (a0_2 : Int) (a1_0 : Int) (a1_1 : Int) (a1_2 : Int) (a1_3 : Int) (a1_4 : Int) (a1_5 : Int) (r1 : Int) (r2 : Int) (r3 : Int) (r4 : Int) (r5 : Int) (r6 : Int) (w : World) (h : impl_Lattice_reduceMotion.f a0_0 a0_1 a0_2 a1_0 a1_1 a1_2 a1_3 a1_4 a1_5 = some (r1, r2, r3, r4, r5, r6)) :
  Calls Try.prog 79 #[.agg #[.int .i64 a0_0, .int .i64 a0_1, .int .i64 a0_2], .agg #[.int .i64 a1_0, .int .i64 a1_1, .int .i64 a1_2, .int .i64 a1_3, .int .i64 a1_4, .int .i64 a1_5]] w fun e w' => e = .returned (.agg #[.int .i64 r1, .int .i64 r2, .int .i64 r3, .int .i64 r4, .int .i64 r5, .int .i64 r6]) ∧ Below w.heap.size w w' := by
 have hu27 := Try.underlying27
 have hu55 := Try.underlying55
 have hu51 := Try.underlying51
 have hu53 := Try.underlying53
 have HB := asd (Below.refl w.heap.size w)
 have H : ((impl_Lattice_reduce.f a0_0 a0_1 a0_2 a1_4 a1_5).bind fun bt384 => (some (a1_0, a1_1, a1_2, a1_3, bt384.1, bt384.2))) = some (r1, r2, r3, r4, r5, r6) := h
 clear h
 obtain ⟨⟨t384, t385⟩, A3, H⟩ := ob H
 replace H : (some (a1_0, a1_1, a1_2, a1_3, t384, t385)) = some (r1, r2, r3, r4, r5, r6) := H
 simp only [Option.some.injEq, Prod.mk.injEq] at H
 obtain ⟨rfl, rfl, rfl, rfl, rfl, rfl⟩ := H
 go_enter Try.func79, Try.ntmps79
 try go_wp2_with (first | ((with_reducible refine gd 2 rfl ?_); refine bx #[.int .i64 a0_0, .int .i64 a0_1, .int .i64 a0_2] 27 ?_; intro gb381 hg w4 BK381 hb; have GE381 := ngw0 hg HB; replace HB := bS0 HB hb; clear hb hg) | ((with_reducible refine gd 3 rfl ?_); refine bx #[.int .i64 a1_0, .int .i64 a1_1, .int .i64 a1_2, .int .i64 a1_3, .int .i64 a1_4, .int .i64 a1_5] 55 ?_; intro gb382 hg w5 BK382 hb; have GE382 := ngw1 hg HB GE381; replace HB := bS1 HB GE381 hb; have NB381_382 := nlt hg BK381; have NB382_381 := nsy (nlt hg BK381); replace BK381 := bB BK381 hb; clear hb hg) | ((with_reducible refine gd 4 rfl ?_); refine bx #[.int .i64 0, .int .i64 0, .int .i64 0, .int .i64 0, .int .i64 0, .int .i64 0] 55 ?_; intro gb383 hg w6 BK383 hb; have GE383 := ngw2 hg HB GE381 GE382; replace HB := bS2 HB GE381 GE382 hb; have NB381_383 := nlt hg BK381; have NB383_381 := nsy (nlt hg BK381); replace BK381 := bB BK381 hb; have NB382_383 := nlt hg BK382; have NB383_382 := nsy (nlt hg BK382); replace BK382 := bB BK382 hb; clear hb hg))
 replace BK381 := asd (blk_drew BK381.out)
 replace BK382 := asd (blk_drew BK382.out)
 replace BK383 := asd (blk_drew BK383.out)
 replace HB := asd (below_drew1 HB.out)
 refine start_ (n := 8) (S := fun w' => w'.cell? ⟨gb382, 0, none⟩ = some (.int .i64 a1_0) ∧ w'.cell? ⟨gb382, 1, none⟩ = some (.int .i64 a1_1) ∧ w'.cell? ⟨gb382, 2, none⟩ = some (.int .i64 a1_2) ∧ w'.cell? ⟨gb382, 3, none⟩ = some (.int .i64 a1_3) ∧ w'.cell? ⟨gb382, 4, none⟩ = some (.int .i64 a1_4) ∧ w'.cell? ⟨gb382, 5, none⟩ = some (.int .i64 a1_5) ∧ w'.cell? ⟨gb381, 0, none⟩ = some (.int .i64 a0_0) ∧ w'.cell? ⟨gb381, 1, none⟩ = some (.int .i64 a0_1) ∧ w'.cell? ⟨gb381, 2, none⟩ = some (.int .i64 a0_2)) (ds := []) (bt 8 0) (by kernel_rfl) rfl rfl ⟨bcl BK382 0, bcl BK382 1, bcl BK382 2, bcl BK382 3, bcl BK382 4, bcl BK382 5, bcl BK381 0, bcl BK381 1, bcl BK381 2⟩ (fun hHeld => ?_); refine with_tabW impl_Lattice_reduceMotion.tab1 impl_Lattice_reduceMotion.bits1 (fun HT_ HW_ => ?_)
 generalize w6.drew = w7 at BK381 BK382 BK383 HB hHeld ⊢
 refine pu 0 (some 5) (bt 8 1) HT_ ?_
 refine pu 3 (some 8) (bs 8 9) HT_ ?_
 refine ta 1 (some 6) (bs 8 11) HT_ HW_ hHeld ?_
 refine ta 2 (some 7) (bt 8 4) HT_ HW_ hHeld ?_
 refine ta 4 (some 9) (bt 8 5) HT_ HW_ hHeld ?_
 refine ro 5 (some 10) (bt 8 6) HT_ (fun K hK => ?_)
 refine gs Try.func97 #[.agg #[.int .i64 a0_0, .int .i64 a0_1, .int .i64 a0_2], .agg #[.int .i64 a1_4, .int .i64 a1_5]] ?_
 with_reducible refine (impl_Lattice_reduce.calls _ _ _ _ _ _ _ _ A3.out).mono ?_
 rintro e w8 ⟨rfl, hb⟩
 refine ⟨_, rfl, ?_⟩
 replace BK381 := bB BK381 hb
 replace BK382 := bB BK382 hb
 replace BK383 := bB BK383 hb
 replace HB := bS3 HB GE381 GE382 GE383 hb
 (try clear hb)
 (try clear hb2)
 (try clear hk)
 (try clear hi)
 refine hK.out _ _ ⟨bcl BK382 0, bcl BK382 1, bcl BK382 2, bcl BK382 3, bcl BK382 4, bcl BK382 5, bcl BK381 0, bcl BK381 1, bcl BK381 2⟩ (fun hHeld => ?_)
 clear hK K
 refine norm_ (a' := ?_) ?_ ?_
 rotate_left
 ·show Act.put _ (some 10) _ = _
  simp only [Act.put, sA, sB, sC, i64_w, i32_w]
  rfl
 refine pu 6 (some 11) (bt 8 7) HT_ ?_
 refine ro 7 (none) (bt 8 8) HT_ (fun K hK => ?_)
 have hs9 : w8.cell? ⟨gb383, 0, none⟩ = some (.int .i64 0) := bcl BK383 0
 have hfs9 := blk_frozen BK383.out 0
 have hns9_0 := NB381_383.out
 have hns9_1 := NB382_383.out
 have hms9_0 := NB383_381.out
 have hms9_1 := NB383_382.out
 have hs10 : w8.cell? ⟨gb383, 1, none⟩ = some (.int .i64 0) := bcl BK383 1
 have hfs10 := blk_frozen BK383.out 1
 have hns10_0 := NB381_383.out
 have hns10_1 := NB382_383.out
 have hms10_0 := NB383_381.out
 have hms10_1 := NB383_382.out
 have hs11 : w8.cell? ⟨gb383, 2, none⟩ = some (.int .i64 0) := bcl BK383 2
 have hfs11 := blk_frozen BK383.out 2
 have hns11_0 := NB381_383.out
 have hns11_1 := NB382_383.out
 have hms11_0 := NB383_381.out
 have hms11_1 := NB383_382.out
 have hs12 : w8.cell? ⟨gb383, 3, none⟩ = some (.int .i64 0) := bcl BK383 3
 have hfs12 := blk_frozen BK383.out 3
 have hns12_0 := NB381_383.out
 have hns12_1 := NB382_383.out
 have hms12_0 := NB383_381.out
 have hms12_1 := NB383_382.out
 have hs13 : w8.cell? ⟨gb383, 4, none⟩ = some (.int .i64 0) := bcl BK383 4
 have hfs13 := blk_frozen BK383.out 4
 have hns13_0 := NB381_383.out
 have hns13_1 := NB382_383.out
 have hms13_0 := NB383_381.out
 have hms13_1 := NB383_382.out
 have hs14 : w8.cell? ⟨gb383, 5, none⟩ = some (.int .i64 0) := bcl BK383 5
 have hfs14 := blk_frozen BK383.out 5
 have hns14_0 := NB381_383.out
 have hns14_1 := NB382_383.out
 have hms14_0 := NB383_381.out
 have hms14_1 := NB383_382.out
 refine skip_ (w1 := ?_) (by rfl) rfl ?_ ?_
 rotate_left
 ·go_simp
  rfl
 refine hK.out _ _ ⟨(cf NB382_383 ((cf NB382_383 ((cf NB382_383 ((cf NB382_383 ((cf NB382_383 ((cf NB382_383 (hHeld.1)))))))))))), (cf NB382_383 ((cf NB382_383 ((cf NB382_383 ((cf NB382_383 ((cf NB382_383 ((cf NB382_383 (hHeld.2.1)))))))))))), (cf NB382_383 ((cf NB382_383 ((cf NB382_383 ((cf NB382_383 ((cf NB382_383 ((cf NB382_383 (hHeld.2.2.1)))))))))))), (cf NB382_383 ((cf NB382_383 ((cf NB382_383 ((cf NB382_383 ((cf NB382_383 ((cf NB382_383 (hHeld.2.2.2.1)))))))))))), (cf NB382_383 ((cf NB382_383 ((cf NB382_383 ((cf NB382_383 ((cf NB382_383 ((cf NB382_383 (hHeld.2.2.2.2.1)))))))))))), (cf NB382_383 ((cf NB382_383 ((cf NB382_383 ((cf NB382_383 ((cf NB382_383 ((cf NB382_383 (hHeld.2.2.2.2.2.1)))))))))))), (cf NB381_383 ((cf NB381_383 ((cf NB381_383 ((cf NB381_383 ((cf NB381_383 ((cf NB381_383 (hHeld.2.2.2.2.2.2.1)))))))))))), (cf NB381_383 ((cf NB381_383 ((cf NB381_383 ((cf NB381_383 ((cf NB381_383 ((cf NB381_383 (hHeld.2.2.2.2.2.2.2.1)))))))))))), (cf NB381_383 ((cf NB381_383 ((cf NB381_383 ((cf NB381_383 ((cf NB381_383 ((cf NB381_383 (hHeld.2.2.2.2.2.2.2.2))))))))))))⟩ (fun hHeld => ?_)
 clear hK K
 refine done_ (done_of HT_.out (by kernel_rfl)) ?_
 try go_wp2
 refine bodyPost_ret (results_cell_row rfl _ _ gb383 55 #[.int .i64 a1_0, .int .i64 a1_1, .int .i64 a1_2, .int .i64 a1_3, .int .i64 t384, .int .i64 t385] (0, 0) _ rfl (bq0 BK383) Try.underlying55 rfl (by kernel_rfl)) rfl ?_
 exact er (bbw3 HB GE381 GE382 GE383)

/-! ### impl_Lattice_basis: function 110 -/
def impl_Lattice_basis.f (a0_0 : Int) (a0_1 : Int) (a0_2 : Int) : Option (Int × Int × Int × Int) := some (a0_0, 0, a0_1, a0_2)
def impl_Lattice_basis.T1 : Bool × List (List Nat × List Nat) := (true, [([], []), ([0], [0]), ([1], [1]), ([], []), ([3], [3]), ([], []), ([5], [5]), ([4, 6], [4, 6]), ([2, 0, 1, 2], [2]), ([7, 8, 0, 1, 2, 3, 4, 5, 6, 7, 8], [7])])
def impl_Lattice_basis.B1 : List Nat := [0, 1, 3, 0, 8, 0, 32, 120, 7, 511]
theorem impl_Lattice_basis.tab1 : rtab .any (opsOf Try.f110 1) = impl_Lattice_basis.T1 := by kernel_rfl
theorem impl_Lattice_basis.bits1 : waitsOk impl_Lattice_basis.T1.2 impl_Lattice_basis.B1 = true := by kernel_rfl
set_option maxHeartbeats 8000000 in
set_option maxRecDepth 100000 in
theorem impl_Lattice_basis.calls (a0_0 : Int) (a0_1 : Int) (a0_2 : Int) (r1 : Int) (r2 : Int) (r3 : Int) (r4 : Int) (w : World) (h : impl_Lattice_basis.f a0_0 a0_1 a0_2 = some (r1, r2, r3, r4)) :
  Calls Try.prog 110 #[.agg #[.int .i64 a0_0, .int .i64 a0_1, .int .i64 a0_2]] w fun e w' => e = .returned (.tuple #[.agg #[.int .i64 r1, .int .i64 r2], .agg #[.int .i64 r3, .int .i64 r4]]) ∧ Below w.heap.size w w' := by
 have hu27 := Try.underlying27
 have hu53 := Try.underlying53
 have HB := asd (Below.refl w.heap.size w)
 have H : (some (a0_0, 0, a0_1, a0_2)) = some (r1, r2, r3, r4) := h
 clear h
 simp only [Option.some.injEq, Prod.mk.injEq] at H
 obtain ⟨rfl, rfl, rfl, rfl⟩ := H
 go_enter Try.func110, Try.ntmps110
 try go_wp2_with (first | ((with_reducible refine gd 1 rfl ?_); refine bx #[.int .i64 a0_0, .int .i64 a0_1, .int .i64 a0_2] 27 ?_; intro gb386 hg w2 BK386 hb; have GE386 := ngw0 hg HB; replace HB := bS0 HB hb; clear hb hg) | ((with_reducible refine gd 2 rfl ?_); refine bx #[.int .i64 0, .int .i64 0] 53 ?_; intro gb387 hg w3 BK387 hb; have GE387 := ngw1 hg HB GE386; replace HB := bS1 HB GE386 hb; have NB386_387 := nlt hg BK386; have NB387_386 := nsy (nlt hg BK386); replace BK386 := bB BK386 hb; clear hb hg) | ((with_reducible refine gd 3 rfl ?_); refine bx #[.int .i64 0, .int .i64 0] 53 ?_; intro gb388 hg w4 BK388 hb; have GE388 := ngw2 hg HB GE386 GE387; replace HB := bS2 HB GE386 GE387 hb; have NB386_388 := nlt hg BK386; have NB388_386 := nsy (nlt hg BK386); replace BK386 := bB BK386 hb; have NB387_388 := nlt hg BK387; have NB388_387 := nsy (nlt hg BK387); replace BK387 := bB BK387 hb; clear hb hg))
 replace BK386 := asd (blk_drew BK386.out)
 replace BK387 := asd (blk_drew BK387.out)
 replace BK388 := asd (blk_drew BK388.out)
 replace HB := asd (below_drew1 HB.out)
 refine start_ (n := 10) (S := fun w' => w'.cell? ⟨gb386, 0, none⟩ = some (.int .i64 a0_0) ∧ w'.cell? ⟨gb386, 1, none⟩ = some (.int .i64 a0_1) ∧ w'.cell? ⟨gb386, 2, none⟩ = some (.int .i64 a0_2)) (ds := []) (bt 10 0) (by kernel_rfl) rfl rfl ⟨bcl BK386 0, bcl BK386 1, bcl BK386 2⟩ (fun hHeld => ?_); refine with_tabW impl_Lattice_basis.tab1 impl_Lattice_basis.bits1 (fun HT_ HW_ => ?_)
 generalize w4.drew = w5 at BK386 BK387 BK388 HB hHeld ⊢
 refine pu 0 (some 4) (bt 10 1) HT_ ?_
 refine pu 3 (some 7) (bs 10 9) HT_ ?_
 refine pu 5 (some 9) (bs 10 41) HT_ ?_
 refine ta 1 (some 5) (bs 10 43) HT_ HW_ hHeld ?_
 refine pu 2 (some 6) (bs 10 47) HT_ ?_
 refine ta 4 (some 8) (bt 10 6) HT_ HW_ hHeld ?_
 refine ta 6 (some 10) (bt 10 7) HT_ HW_ hHeld ?_
 refine pu 7 (some 11) (bt 10 8) HT_ ?_
 refine ro 8 (none) (bt 10 9) HT_ (fun K hK => ?_)
 have hs6 : w5.cell? ⟨gb387, 0, none⟩ = some (.int .i64 0) := bcl BK387 0
 have hfs6 := blk_frozen BK387.out 0
 have hns6_0 := NB386_387.out
 have hns6_2 := NB388_387.out
 have hms6_0 := NB387_386.out
 have hms6_2 := NB387_388.out
 have hs7 : w5.cell? ⟨gb387, 1, none⟩ = some (.int .i64 0) := bcl BK387 1
 have hfs7 := blk_frozen BK387.out 1
 have hns7_0 := NB386_387.out
 have hns7_2 := NB388_387.out
 have hms7_0 := NB387_386.out
 have hms7_2 := NB387_388.out
 refine skip_ (w1 := ?_) (by rfl) rfl ?_ ?_
 rotate_left
 ·go_simp
  rfl
 refine hK.out _ _ ⟨(cf NB386_387 ((cf NB386_387 (hHeld.1)))), (cf NB386_387 ((cf NB386_387 (hHeld.2.1)))), (cf NB386_387 ((cf NB386_387 (hHeld.2.2))))⟩ (fun hHeld => ?_)
 clear hK K
 refine ro 9 (none) (bt 10 10) HT_ (fun K hK => ?_)
 have hs8 : w5.cell? ⟨gb388, 0, none⟩ = some (.int .i64 0) := bcl BK388 0
 have hfs8 := blk_frozen BK388.out 0
 have hns8_0 := NB386_388.out
 have hns8_1 := NB387_388.out
 have hms8_0 := NB388_386.out
 have hms8_1 := NB388_387.out
 have hs9 : w5.cell? ⟨gb388, 1, none⟩ = some (.int .i64 0) := bcl BK388 1
 have hfs9 := blk_frozen BK388.out 1
 have hns9_0 := NB386_388.out
 have hns9_1 := NB387_388.out
 have hms9_0 := NB388_386.out
 have hms9_1 := NB388_387.out
 refine skip_ (w1 := ?_) (by rfl) rfl ?_ ?_
 rotate_left
 ·go_simp
  rfl
 refine hK.out _ _ ⟨(cf NB386_388 ((cf NB386_388 (hHeld.1)))), (cf NB386_388 ((cf NB386_388 (hHeld.2.1)))), (cf NB386_388 ((cf NB386_388 (hHeld.2.2))))⟩ (fun hHeld => ?_)
 clear hK K
 refine done_ (done_of HT_.out (by kernel_rfl)) ?_
 try go_wp2
 refine bodyPost_ret (results_cc rfl _ _ gb387 gb388 53 53 #[.int .i64 a0_0, .int .i64 0] #[.int .i64 a0_1, .int .i64 a0_2] (0, 0) (0, 0) _ _ rfl (bq1 BK387 NB387_388) Try.underlying53 rfl (by kernel_rfl) rfl (bq1 BK388 NB388_387) Try.underlying53 rfl (by kernel_rfl)) rfl ?_
 exact er (bbw3 HB GE386 GE387 GE388)

/-! ### impl_Mat_121: function 121 -/
/-- The first index at which p holds, or -1. -/
def impl_Mat_121.f (p : S51 → Bool) (l : List S51) : Int := match l.findIdx? p with | some i => i | none => -1
theorem impl_Mat_121.rd_get (l : List S51) (j : Nat) (h : j < l.length) : rd_T51 l (j : Int) = l[j] := by
 unfold rd_T51; rw [Int.toNat_natCast]; simp [List.getD, h]
theorem impl_Mat_121.hit (p : S51 → Bool) (l : List S51) (x : Int) (h0 : 0 ≤ x) (hx : x < l.length) (h : p (rd_T51 l x) = true) (hb : ∀ j : Nat, (j : Int) < x → p (rd_T51 l (j : Int)) = false) : impl_Mat_121.f p l = x := by
 obtain ⟨k, rfl⟩ := Int.eq_ofNat_of_zero_le h0
 have hk : k < l.length := by omega
 rw [impl_Mat_121.rd_get l k hk] at h
 unfold impl_Mat_121.f
 have : l.findIdx? p = some k := by
  rw [List.findIdx?_eq_some_iff_getElem]
  refine ⟨hk, h, fun j hj => ?_⟩
  have := hb j (by omega)
  rw [impl_Mat_121.rd_get l j (by omega)] at this
  simpa using this
 rw [this]
theorem impl_Mat_121.miss (p : S51 → Bool) (l : List S51) (hb : ∀ j : Nat, (j : Int) < l.length → p (rd_T51 l (j : Int)) = false) : impl_Mat_121.f p l = -1 := by
 unfold impl_Mat_121.f
 have : l.findIdx? p = none := by
  rw [List.findIdx?_eq_none_iff]
  intro x hx
  obtain ⟨j, hj, rfl⟩ := List.getElem_of_mem hx
  have := hb j (by omega)
  rw [impl_Mat_121.rd_get l j hj] at this
  exact this
 rw [this]
set_option maxHeartbeats 2000000 in
theorem impl_Mat_121.calls_some (p : S51 → Bool) (g : Nat) (lb : Array Value) (eg : ∀ args w, (callFunc g args).run Try.prog w = .ok (.enter g args) w) (ad : Addr) (c : Nat) (l : List S51) (w : World) (hr : Kd.C k51 w (some ad) l.length l)
  (hp : ∀ (x : S51) (W : World), Below w.heap.size w W → Calls Try.prog g (#[.agg #[.int .i64 x.f0, .int .i64 x.f1, .int .i64 x.f2, .int .i64 x.f3]] ++ lb) W fun e w' => e = .returned (.bool (p x)) ∧ Below w.heap.size w w') :
  Calls Try.prog 121 #[.slice (some ad) l.length c, .func (.func g) #[] lb] w fun e w' => e = .returned (.int .i64 (impl_Mat_121.f p l)) ∧ Below w.heap.size w w' := by
 have hu33 := Try.underlying51
 have hbig := Kd.C_max hr
 have HR := Aside0.mk hr
 have HP := Aside0.mk hp
 clear hr hp
 have hbig' : l.length ≤ 9223372036854775807 := hbig
 have HBIG := Aside0.mk hbig'
 clear hbig hbig'
 go_enter Try.func121, Try.ntmps121
 go_wp2
 go_loopg [5, 8] l.length (fun gg _ s8 wr => ∃ x : Int, s8 = .int .i64 x ∧ Aside0 (0 ≤ x ∧ x ≤ l.length ∧ (l.length : Int) - x ≤ gg) ∧ Aside0 (Below w.heap.size w wr) ∧ Aside0 (∀ j : Nat, (j : Int) < x → p (rd_T51 l (j : Int)) = false))
 case atStart => exact ⟨0, rfl, ⟨by omega⟩, ⟨Below.refl _ w⟩, ⟨fun j hj => absurd hj (by omega)⟩⟩
 case round =>
  obtain ⟨x, rfl, HX, BW, AA⟩ := hrel
  by_cases c4 : x < (l.length : Int)
  ·have c4b0 : decide (x < (l.length : Int)) = true := decide_eq_true c4
   have c5b0 : decide (0 ≤ x) = true := decide_eq_true HX.out.1
   have hcall := HP.out (rd_T51 l x) wr BW.out
   obtain ⟨ad', e', hx0, hx1, hx2, hx3⟩ := at_T51 HR.out x HX.out.1 c4
   cases e'
   replace hx0 := (BW.out.cell (World.block_lt_of_cell? w _ hx0)).trans hx0
   replace hx1 := (BW.out.cell (World.block_lt_of_cell? w _ hx1)).trans hx1
   replace hx2 := (BW.out.cell (World.block_lt_of_cell? w _ hx2)).trans hx2
   replace hx3 := (BW.out.cell (World.block_lt_of_cell? w _ hx3)).trans hx3
   have C4 := Aside0.mk c4
   clear c4
   generalize hy : rd_T51 l x = y at hcall hx0 hx1 hx2 hx3
   have HY := Aside0.mk hy
   clear hy
   have p5 : 0 ≤ x := HX.out.1
   have p215 := eq_true p5
   have q215 : (x < (l.length : Int)) = True := eq_true C4.out
   clear p5
   cases hq : p y with
   | true =>
    rw [hq] at hcall
    have HQ := Aside0.mk hq
    clear hq
    go_wp2_with (go_at_fn g; refine hcall.mono ?_; rintro e w' ⟨rfl, hb'⟩)
    go_ret
    refine ⟨?_, hb'⟩
    rw [impl_Mat_121.hit p l x HX.out.1 C4.out (by rw [HY.out]; exact HQ.out) AA.out]
    rfl
   | false =>
    rw [hq] at hcall
    have HQ := Aside0.mk hq
    clear hq
    go_wp2_with (go_at_fn g; refine hcall.mono ?_; rintro e w' ⟨rfl, hb'⟩)
    have hw : wrap64 (x + 1) = x + 1 := by
     have h1 := HX.out; have h2 := HBIG.out; have h3 := C4.out
     unfold wrap64; omega
    go_roundg ((l.length : Int) - (x + 1)).toNat
    case measure => have h1 := HX.out; have h3 := C4.out; omega
    case rel =>
     refine ⟨wrap64 (x + 1), rfl, ⟨?_⟩, ⟨hb'⟩, ⟨fun j hj => ?_⟩⟩
     ·have h1 := HX.out; have h3 := C4.out; rw [hw]; omega
     ·rw [hw] at hj
      by_cases e : (j : Int) = x
      ·rw [e, HY.out]; exact HQ.out
      ·exact AA.out j (by omega)
  ·have c4b0 : decide (x < (l.length : Int)) = false := decide_eq_false c4
   have hxe : x = l.length := by have := HX.out; omega
   have C4 := Aside0.mk hxe
   clear c4 hxe
   go_wp2
   go_ret
   refine ⟨?_, BW.out⟩
   rw [impl_Mat_121.miss p l (by rw [← C4.out]; exact AA.out)]
   rfl
set_option maxHeartbeats 2000000 in
theorem impl_Mat_121.calls_empty (p : S51 → Bool) (A : Option Addr) (c : Nat) (fv : Value) (w : World) :
  Calls Try.prog 121 #[.slice A 0 c, fv] w fun e w' => e = .returned (.int .i64 (impl_Mat_121.f p [])) ∧ Below w.heap.size w w' := by
 go_enter Try.func121, Try.ntmps121
 go_wp2
 go_loopg [5, 8] 0 (fun _ _ s8 wr => s8 = .int .i64 0 ∧ wr = w)
 case atStart => exact ⟨rfl, rfl⟩
 case round =>
  obtain ⟨rfl, rfl⟩ := hrel
  go_wp2
  go_ret
  exact ⟨rfl, Below.refl _ _⟩
theorem impl_Mat_121.calls (p : S51 → Bool) (g : Nat) (lb : Array Value) (eg : ∀ args w, (callFunc g args).run Try.prog w = .ok (.enter g args) w) (A : Option Addr) (c : Nat) (l : List S51) (w : World) (hr : Kd.C k51 w A l.length l)
  (hp : ∀ (x : S51) (W : World), Below w.heap.size w W → Calls Try.prog g (#[.agg #[.int .i64 x.f0, .int .i64 x.f1, .int .i64 x.f2, .int .i64 x.f3]] ++ lb) W fun e w' => e = .returned (.bool (p x)) ∧ Below w.heap.size w w') :
  Calls Try.prog 121 #[.slice A l.length c, .func (.func g) #[] lb] w fun e w' => e = .returned (.int .i64 (impl_Mat_121.f p l)) ∧ Below w.heap.size w w' := by
 cases l with
 | nil => exact impl_Mat_121.calls_empty p A c _ w
 | cons x xs =>
  obtain ⟨ad, rfl, _⟩ := hr.2.2 (by simp)
  exact impl_Mat_121.calls_some p g lb eg ad c (x :: xs) w hr hp

/-! ### impl_Mat_111: function 111 -/
/-- What the loop holds. -/
def impl_Mat_111.Inv (p : S51 → Bool) (l : List S51) (i j : Int) (m : List S51) : Prop :=
 m.length = l.length ∧ m.take i.toNat = (l.take j.toNat).filter (fun x => !p x) ∧ ∀ t : Nat, j ≤ t → rd_T51 m (t : Int) = rd_T51 l (t : Int)
theorem impl_Mat_111.rd_get (l : List S51) (j : Nat) (h : j < l.length) : rd_T51 l (j : Int) = l[j] := by
 unfold rd_T51; rw [Int.toNat_natCast]; simp [List.getD, h]
theorem impl_Mat_111.inv_start (p : S51 → Bool) (l : List S51) (k : Nat) (hk : k < l.length) (h : p l[k] = true) (hb : ∀ (j : Nat) (hj : j < k), p (l[j]'(Nat.lt_trans hj hk)) = false) : impl_Mat_111.Inv p l (k : Int) ((k : Int) + 1) l := by
 refine ⟨rfl, ?_, fun t _ => rfl⟩
 have e : ((k : Int) + 1).toNat = k + 1 := by omega
 rw [Int.toNat_natCast, e, List.take_succ_eq_append_getElem hk, List.filter_append]
 have e2 : (l.take k).filter (fun x => !p x) = l.take k := by
  rw [List.filter_eq_self]
  intro x hx
  obtain ⟨j, hj, rfl⟩ := List.getElem_of_mem hx
  have hj' : j < k := by rw [List.length_take] at hj; omega
  rw [List.getElem_take, hb j hj']; rfl
 rw [e2]; simp [h]
theorem impl_Mat_111.inv_keep (p : S51 → Bool) (l m : List S51) (i j : Int) (h0 : 0 ≤ i) (hij : i < j) (hj : j < l.length) (h : impl_Mat_111.Inv p l i j m) (hp : p (rd_T51 m j) = false) : impl_Mat_111.Inv p l (i + 1) (j + 1) (m.set i.toNat (rd_T51 m j)) := by
 obtain ⟨h1, h2, h3⟩ := h
 obtain ⟨i, rfl⟩ := Int.eq_ofNat_of_zero_le h0
 obtain ⟨j, rfl⟩ := Int.eq_ofNat_of_zero_le (show 0 ≤ j by omega)
 have hjl : j < l.length := by omega
 have him : i < m.length := by omega
 have e1 : ((i : Int) + 1).toNat = i + 1 := by omega
 have e2 : ((j : Int) + 1).toNat = j + 1 := by omega
 have e3 := h3 j (by omega)
 rw [Int.toNat_natCast] at h2 ⊢
 rw [Int.toNat_natCast] at h2
 refine ⟨by simpa using h1, ?_, fun t ht => ?_⟩
 ·rw [e1, e2, List.take_succ_eq_append_getElem hjl, List.filter_append, ← h2, List.take_succ_eq_append_getElem (by simpa using him)]
  rw [e3, impl_Mat_111.rd_get l j hjl] at hp ⊢
  congr 1
  ·rw [List.take_set_of_le (by omega)]
  ·simp [hp]
 ·have := h3 t (by omega)
  unfold rd_T51 at this ⊢
  rw [Int.toNat_natCast] at this ⊢
  simp only [List.getD] at this ⊢
  rw [List.getElem?_set_ne (by omega)]
  exact this
theorem impl_Mat_111.inv_skip (p : S51 → Bool) (l m : List S51) (i j : Int) (h0 : 0 ≤ i) (hij : i < j) (hj : j < l.length) (h : impl_Mat_111.Inv p l i j m) (hp : p (rd_T51 m j) = true) : impl_Mat_111.Inv p l i (j + 1) m := by
 obtain ⟨h1, h2, h3⟩ := h
 obtain ⟨j, rfl⟩ := Int.eq_ofNat_of_zero_le (show 0 ≤ j by omega)
 have hjl : j < l.length := by omega
 have e2 : ((j : Int) + 1).toNat = j + 1 := by omega
 have e3 := h3 j (by omega)
 rw [Int.toNat_natCast] at h2
 refine ⟨h1, ?_, fun t ht => h3 t (by omega)⟩
 rw [e2, List.take_succ_eq_append_getElem hjl, List.filter_append, ← h2]
 rw [e3, impl_Mat_111.rd_get l j hjl] at hp
 simp [hp]
theorem impl_Mat_111.set_cells_append (b : Nat) : ∀ (xs ys : List Value) (o : Nat) (w : World), w.setCells b o (xs ++ ys) = (w.setCells b o xs).setCells b (o + xs.length) ys
 | [], _, _, _ => rfl
 | x :: xs, ys, o, w => by
  have := impl_Mat_111.set_cells_append b xs ys (o + 1) (w.setCell ⟨b, o, none⟩ x)
  rw [List.cons_append, World.setCells, World.setCells, this, List.length_cons]; congr 1; omega
theorem impl_Mat_111.zeros (n : Nat) : (Builtin.zeroCells #[.int .i64 0, .int .i64 0, .int .i64 0, .int .i64 0] n).toList = List.replicate (n * 4) (Value.int .i64 0) := by
 apply List.ext_getElem
 ·simp [Builtin.zeroCells]
 ·intro i h1 h2
  simp only [Builtin.zeroCells, Array.toList_map, Array.toList_range, List.getElem_map, List.getElem_range, List.getElem_replicate]
  have : i % 4 < 4 := Nat.mod_lt _ (by decide)
  have h4 : i % 4 = 0 ∨ i % 4 = 1 ∨ i % 4 = 2 ∨ i % 4 = 3 := by omega
  show (#[Value.int .i64 0, .int .i64 0, .int .i64 0, .int .i64 0] : Array Value)[i % 4]! = _
  rcases h4 with h | h | h | h <;> rw [h] <;> rfl
/-- The end of a row, made zero. -/
theorem impl_Mat_111.clear_row {g n cap base : Nat} {ok : Nat → Prop} (d : Nat) : ∀ (W : World) (i : Nat) (xs : List S51), Kd.R k51 51 W base ok (.slice (some ⟨g, 0, none⟩) n cap) xs → i + d = n →
  ∃ xs', xs'.take i = xs.take i ∧ xs'.length = xs.length ∧ Kd.R k51 51 (W.setCells g (i * 4) (List.replicate (d * 4) (.int .i64 0))) base ok (.slice (some ⟨g, 0, none⟩) n cap) xs' ∧ W.grownBy (W.setCells g (i * 4) (List.replicate (d * 4) (.int .i64 0))) (some g) := by
 induction d with
 | zero => intro W i xs h e; exact ⟨xs, rfl, rfl, h, ⟨rfl, rfl, rfl, Nat.le_refl _, fun _ _ _ => rfl⟩⟩
 | succ d ih =>
  intro W i xs h e
  have hn := (Kd.R_reads' h).1
  obtain ⟨ce, hcl, hM, hcc, hfr⟩ := Kd.R_elem h z51 (i : Int) (by omega) (by omega)
  have HP := Kd.R_seg h (i : Int) (by omega) (by omega) (seg := [.int .i64 0, .int .i64 0, .int .i64 0, .int .i64 0]) (j := 0) hcl hcc (show 4 ≤ 4 from by decide) (x' := z51) (by
   obtain rfl := k51_openM hM
   exact k51_mkM _ _ _ z51) (fun _ hk => hk)
  rw [Int.toNat_natCast] at HP
  obtain ⟨h1, h2⟩ := HP
  obtain ⟨xs', q1, q2, q3, q4⟩ := ih _ (i + 1) _ h1 (by omega)
  have e1 : List.replicate ((d + 1) * 4) (Value.int .i64 0) = [.int .i64 0, .int .i64 0, .int .i64 0, .int .i64 0] ++ List.replicate (d * 4) (.int .i64 0) := by
   rw [show (d + 1) * 4 = 4 + d * 4 by omega, ← List.replicate_append_replicate]; rfl
  have e2 : (W.setCells g (i * 4) (List.replicate ((d + 1) * 4) (.int .i64 0))) = ((W.setCells g (i * (k51).sz + 0) [.int .i64 0, .int .i64 0, .int .i64 0, .int .i64 0]).setCells g ((i + 1) * 4) (List.replicate (d * 4) (.int .i64 0))) := by
   rw [e1, impl_Mat_111.set_cells_append]; congr 1; show i * 4 + 4 = (i + 1) * 4; omega
  rw [e2]
  refine ⟨xs', ?_, by simpa using q2, q3, h2.trans q4⟩
  have := congrArg (List.take i) q1
  rw [List.take_take, List.take_take, Nat.min_eq_left (Nat.le_succ i)] at this
  rw [this, List.take_set_of_le (Nat.le_refl _)]
theorem impl_Mat_111.cells_of_row {g n cap base : Nat} {ok : Nat → Prop} {W : World} {xs : List S51} (h : Kd.R k51 51 W base ok (.slice (some ⟨g, 0, none⟩) n cap) xs) (t : Nat) (ht : t < n * 4) : (W.cell? ⟨g, t, none⟩).isSome = true ∧ W.frozen? ⟨g, t, none⟩ = false := by
 obtain ⟨ce, hcl, hM, hcc, hfr⟩ := Kd.R_elem h z51 ((t / 4 : Nat) : Int) (by omega) (by omega)
 rw [Int.toNat_natCast, show (k51).sz = 4 from rfl] at hcc hfr
 have e : t / 4 * 4 + t % 4 = t := by omega
 have hl : ce.length = 4 := hcl
 have hr : t % 4 < ce.length := by rw [hl]; omega
 have h1 := hcc (t % 4) _ (List.getElem?_eq_getElem hr)
 have h2 := hfr (t % 4)
 rw [e] at h1 h2
 exact ⟨by rw [h1]; rfl, h2⟩
theorem impl_Mat_111.zero_run (W : World) : (zeroValue 51).run Try.prog W = .ok (.agg #[.int .i64 0, .int .i64 0, .int .i64 0, .int .i64 0]) W := by
 have := info51
 cases h : Try.prog.info? 51 with
 | none => rw [h] at this; cases this
 | some i =>
  rw [h] at this
  simp only [Option.map_some, Option.some.injEq, Prod.mk.injEq] at this
  simp [zeroValue, typeInfo, h, this.1]
theorem impl_Mat_111.clear_run {g n c base : Nat} {ok : Nat → Prop} {W : World} {xs : List S51} (h : Kd.R k51 51 W base ok (.slice (some ⟨g, 0, none⟩) n c) xs) (i : Nat) (hi : i < n) (ty : TypeId) (c' : Nat) :
  (Builtin.clear_ #[44] ty #[.slice (some ⟨g, i * 4, none⟩) (n - i) c']).run Try.prog W = .ok (.tuple #[]) (W.setCells g (i * 4) (List.replicate ((n - i) * 4) (.int .i64 0))) := by
 have hst := run_storeCells_cells (P := Try.prog) g (i * 4) (List.replicate ((n - i) * 4) (.int .i64 0)) 0 W (fun j hj => (impl_Mat_111.cells_of_row h (i * 4 + 0 + j) (by rw [List.length_replicate] at hj; omega)).1) (fun j hj => (impl_Mat_111.cells_of_row h (i * 4 + 0 + j) (by rw [List.length_replicate] at hj; omega)).2) (by intro v hv; rw [List.eq_of_mem_replicate hv]; rfl)
 simp only [Nat.add_zero] at hst
 have hz := impl_Mat_111.zeros (n - i)
 obtain ⟨q, hq⟩ : ∃ q, n - i = q + 1 := ⟨n - i - 1, by omega⟩
 rw [hq] at hst hz ⊢
 simp [Builtin.clear_, run_underlying Try.underlying44, impl_Mat_111.zero_run, Value.cells, hz, hst]
set_option maxHeartbeats 4000000 in
set_option maxRecDepth 100000 in
theorem impl_Mat_111.calls (p : S51 → Bool) (g : Nat) (lb : Array Value) (eg : ∀ args w, (callFunc g args).run Try.prog w = .ok (.enter g args) w) (P0_ : Nat → Prop) (u0_ : Value) (l : List S51) (w0 w : World) (hB : Below w0.heap.size w0 w) (ho : Kd.R k51 51 w w0.heap.size P0_ u0_ l)
  (hp : ∀ (x : S51) (W : World), Below w0.heap.size w0 W → Kept w W P0_ → Calls Try.prog g (#[.agg #[.int .i64 x.f0, .int .i64 x.f1, .int .i64 x.f2, .int .i64 x.f3]] ++ lb) W fun e w' => e = .returned (.bool (p x)) ∧ Below W.heap.size W w') :
  Calls Try.prog 111 #[u0_, .func (.func g) #[] lb] w fun e w' => ∃ v', e = .returned v' ∧ Kd.R k51 51 w' w0.heap.size (fun k_ => P0_ k_ ∨ w.heap.size ≤ k_) v' (l.filter fun x => !p x) ∧ Below w0.heap.size w0 w' ∧ Kept w w' P0_ := by
 have hu33 := Try.underlying51
 obtain ⟨A0, c0, e0, hlc, hC⟩ := Kd.R_reads ho
 subst e0
 have HI := impl_Mat_121.calls p g lb eg A0 c0 l w hC (fun x W hb => (hp x W (below_then hB hB.size hb) (Kept.of_below hb _)).mono fun e w' ⟨he, hb'⟩ => ⟨he, below_then hb hb.size hb'⟩)
 have HO := asd (show Kd.R k51 51 w w0.heap.size (fun k_ => P0_ k_ ∨ w.heap.size ≤ k_) (.slice A0 l.length c0) l from Kd.R_mono ho (fun k_ hk => .inl hk))
 have HP := Aside0.mk hp
 have HB := Aside0.mk hB
 have HBIG := asd (show l.length ≤ 9223372036854775807 from Kd.C_max hC)
 unfold impl_Mat_121.f at HI
 clear ho hp hB hC hlc
 cases hf : l.findIdx? p with
 | none =>
  rw [hf] at HI
  have hall : (l.filter fun x => !p x) = l := by
   rw [List.filter_eq_self]
   intro x hx
   have := List.findIdx?_eq_none_iff.1 hf x hx
   simp [this]
  rw [hall]
  clear hf hall
  replace HI : Calls Try.prog 121 #[.slice A0 l.length c0, .func (.func g) #[] lb] w fun e w' => e = .returned (.int .i64 (-1)) ∧ Below w.heap.size w w' := HI
  go_enter Try.func111, Try.ntmps111
  go_wp2_with (go_at_call 121; refine HI.mono ?_; rintro e w' ⟨rfl, hb'⟩)
  go_ret
  exact ⟨_, rfl, Kd.R_below HO.out hb', below_then HB.out HB.out.size hb', Kept.of_below hb' _⟩
 | some k =>
  rw [hf] at HI
  obtain ⟨hk, hpk, hbk⟩ := List.findIdx?_eq_some_iff_getElem.1 hf
  have HS := asd (impl_Mat_111.inv_start p l k hk hpk (fun j hj => by simpa using hbk j hj))
  have HK := Aside0.mk hk
  clear hf hpk hbk
  replace HI : Calls Try.prog 121 #[.slice A0 l.length c0, .func (.func g) #[] lb] w fun e w' => e = .returned (.int .i64 (k : Int)) ∧ Below w.heap.size w w' := HI
  have hne1 : ((k : Int) == -1) = false := beq_eq_false_iff_ne.2 (by omega)
  obtain ⟨go, co, eo, gb, gl, cl, HG⟩ := Kd.R_form HO.out (by omega)
  injection eo with ea_ en_ ec_
  subst ea_
  subst ec_
  clear en_ gl HG cl
  have HKW := asd (show wrap64 ((k : Int) + 1) = (k : Int) + 1 by have := HBIG.out; unfold wrap64; omega)
  clear hk
  go_enter Try.func111, Try.ntmps111
  go_wp2_with (go_at_call 121; refine HI.mono ?_; rintro e w' ⟨rfl, hb'⟩)
  go_loopg [5, 6, 7] l.length (fun gg s5 s6 _ wr => ∃ (i j : Int) (m : List S51), s5 = .int .i64 i ∧ s6 = .int .i64 j ∧ Aside0 (0 ≤ i ∧ i < j ∧ j ≤ l.length ∧ (l.length : Int) - j ≤ gg) ∧ Aside0 (impl_Mat_111.Inv p l i j m) ∧ Aside0 (Kd.R k51 51 wr w0.heap.size (fun k_ => P0_ k_ ∨ w.heap.size ≤ k_) (.slice (some ⟨go, 0, none⟩) l.length c0) m) ∧ Aside0 (Kept w wr P0_) ∧ Aside0 (Below w0.heap.size w0 wr))
  case atStart => exact ⟨k, wrap64 ((k : Int) + 1), l, rfl, rfl, ⟨by have := HK.out; rw [HKW.out]; omega⟩, ⟨by rw [HKW.out]; exact HS.out⟩, ⟨Kd.R_below HO.out hb'⟩, ⟨Kept.of_below hb' _⟩, ⟨below_then HB.out HB.out.size hb'⟩⟩
  case round =>
   clear HI
   obtain ⟨i, j, m, rfl, rfl, HX, HV, HR, HKP, HBW⟩ := hrel
   by_cases c4 : j < (l.length : Int)
   ·have c4b0 : decide (j < (l.length : Int)) = true := decide_eq_true c4
    have c5b0 : decide (0 ≤ j) = true := decide_eq_true (by have := HX.out; omega)
    obtain ⟨ce, hcl, hM, hcc, hfr⟩ := Kd.R_elem HR.out z51 j (by have := HX.out; omega) c4
    obtain rfl := k51_openM hM
    have hx0 : wr.cell? ⟨go, j.toNat * 4, none⟩ = some (.int .i64 ((rd_T51 m j).f0)) := hcc 0 _ rfl
    have hx1 : wr.cell? ⟨go, j.toNat * 4 + 1, none⟩ = some (.int .i64 ((rd_T51 m j).f1)) := hcc 1 _ rfl
    have hx2 : wr.cell? ⟨go, j.toNat * 4 + 2, none⟩ = some (.int .i64 ((rd_T51 m j).f2)) := hcc 2 _ rfl
    have hx3 : wr.cell? ⟨go, j.toNat * 4 + 3, none⟩ = some (.int .i64 ((rd_T51 m j).f3)) := hcc 3 _ rfl
    clear hcl hcc hfr hM
    have C4 := Aside0.mk c4
    have p215 : (0 ≤ j) = True := eq_true (by have := HX.out; omega)
    have q215 : (j < (l.length : Int)) = True := eq_true c4
    clear c4
    generalize hy : rd_T51 m j = y at hx0 hx1 hx2 hx3
    have HY := Aside0.mk hy
    clear hy
    have hI : 0 ≤ i ∧ i < (l.length : Int) := by have h1 := HX.out; have h2 := C4.out; omega
    have p300 : (0 ≤ i) = True := eq_true hI.1
    have q300 : (i < (l.length : Int)) = True := eq_true hI.2
    have c6b0 : decide (0 ≤ i) = true := decide_eq_true hI.1
    have c7b0 : decide (i < (l.length : Int)) = true := decide_eq_true hI.2
    have HI := Aside0.mk hI
    clear hI
    have hcall := HP.out y (wr.alloc (.cells #[.int .i64 y.f0, .int .i64 y.f1, .int .i64 y.f2, .int .i64 y.f3] 51)) (below_alloc HBW.out _) (Kept.alloc HKP.out _)
    cases hq : p y with
    | true =>
     rw [hq] at hcall
     have HQ := Aside0.mk hq
     clear hq
     go_wp2_with (go_at_fn g; refine hcall.mono ?_; rintro e w2 ⟨rfl, hb2⟩)
     go_roundg ((l.length : Int) - (j + 1)).toNat
     case measure => have h1 := HX.out; have h3 := C4.out; omega
     case rel =>
      have hw : wrap64 (j + 1) = j + 1 := by
       have h1 := HX.out; have h2 := HBIG.out; have h3 := C4.out
       unfold wrap64; omega
      have hb1 := Kept.below (Kept.alloc HKP.out (.cells #[.int .i64 y.f0, .int .i64 y.f1, .int .i64 y.f2, .int .i64 y.f3] 51)) hb2
      have hbb := below_then (below_alloc HBW.out (.cells #[.int .i64 y.f0, .int .i64 y.f1, .int .i64 y.f2, .int .i64 y.f3] 51)) (below_alloc HBW.out _).size hb2
      refine ⟨i, wrap64 (j + 1), m, rfl, rfl, ⟨?_⟩, ⟨?_⟩, ⟨Kd.R_below (Kd.R_alloc HR.out _) hb2⟩, ⟨hb1⟩, ⟨hbb⟩⟩
      ·have h1 := HX.out; have h3 := C4.out; rw [hw]; omega
      ·rw [hw]; exact impl_Mat_111.inv_skip p l m i j HX.out.1 HX.out.2.1 C4.out HV.out (by rw [HY.out]; exact HQ.out)
    | false =>
     rw [hq] at hcall
     have HQ := Aside0.mk hq
     clear hq
     go_wp2_with (go_at_fn g; refine hcall.mono ?_; rintro e w2 ⟨rfl, hb2⟩; have hz0 : w2.cell? ⟨wr.heap.size, 0, none⟩ = some (.int .i64 y.f0) := (hb2.cell (p := ⟨wr.heap.size, 0, none⟩) (by simp)).trans (by simp); have hz1 : w2.cell? ⟨wr.heap.size, 1, none⟩ = some (.int .i64 y.f1) := (hb2.cell (p := ⟨wr.heap.size, 1, none⟩) (by simp)).trans (by simp); have hz2 : w2.cell? ⟨wr.heap.size, 2, none⟩ = some (.int .i64 y.f2) := (hb2.cell (p := ⟨wr.heap.size, 2, none⟩) (by simp)).trans (by simp); have hz3 : w2.cell? ⟨wr.heap.size, 3, none⟩ = some (.int .i64 y.f3) := (hb2.cell (p := ⟨wr.heap.size, 3, none⟩) (by simp)).trans (by simp); have HR2 := asd (Kd.R_below (Kd.R_alloc HR.out (.cells #[.int .i64 y.f0, .int .i64 y.f1, .int .i64 y.f2, .int .i64 y.f3] 51)) hb2); obtain ⟨ce2, hcl2, hM2, hcc2, hfr2⟩ := Kd.R_elem HR2.out z51 i HI.out.1 HI.out.2; obtain rfl := k51_openM hM2; have hS2 := Kd.R_seg HR2.out i HI.out.1 HI.out.2 (seg := [.int .i64 y.f0, .int .i64 y.f1, .int .i64 y.f2, .int .i64 y.f3]) (j := 0) hcl2 hcc2 (show 4 ≤ 4 from by decide) (x' := y) (k51_mkM _ _ _ y) (fun _ hk => hk); have HS2 := Aside0.mk hS2; clear hS2; have hu0 := hcc2 0 _ rfl; have hu1 := hcc2 1 _ rfl; have hu2 := hcc2 2 _ rfl; have hu3 := hcc2 3 _ rfl; have hv0 := hfr2 0; have hv1 := hfr2 1; have hv2 := hfr2 2; have hv3 := hfr2 3; simp only [show (k51).sz = 4 from rfl, Nat.add_zero] at hu0 hu1 hu2 hu3 hv0 hv1 hv2 hv3; clear hcl2 hcc2 hfr2 hM2)
     go_roundg ((l.length : Int) - (j + 1)).toNat
     case measure => have h1 := HX.out; have h3 := C4.out; omega
     case rel =>
      have hw : wrap64 (j + 1) = j + 1 := by
       have h1 := HX.out; have h2 := HBIG.out; have h3 := C4.out
       unfold wrap64; omega
      have hw2 : wrap64 (i + 1) = i + 1 := by
       have h1 := HX.out; have h2 := HBIG.out; have h3 := C4.out
       unfold wrap64; omega
      have hb1 := Kept.below (Kept.alloc HKP.out (.cells #[.int .i64 y.f0, .int .i64 y.f1, .int .i64 y.f2, .int .i64 y.f3] 51)) hb2
      have hbb := below_then (below_alloc HBW.out (.cells #[.int .i64 y.f0, .int .i64 y.f1, .int .i64 y.f2, .int .i64 y.f3] 51)) (below_alloc HBW.out _).size hb2
      refine ⟨wrap64 (i + 1), wrap64 (j + 1), m.set i.toNat y, rfl, rfl, ⟨?_⟩, ⟨?_⟩, ⟨HS2.out.1⟩, ⟨Kept.of_grown HS2.out.2 hb1 (fun k_ e_ => HR2.out.1 k_ e_)⟩, ⟨?_⟩⟩
      ·have h1 := HX.out; have h3 := C4.out; rw [hw, hw2]; omega
      ·have := impl_Mat_111.inv_keep p l m i j HX.out.1 HX.out.2.1 C4.out HV.out (by rw [HY.out]; exact HQ.out)
       rw [hw, hw2]; rw [HY.out] at this; exact this
      ·exact below_set (below_set (below_set (below_set hbb gb) gb) gb) gb
   ·have c4b0 : decide (j < (l.length : Int)) = false := decide_eq_false c4
    have hje : j = l.length := by have := HX.out; omega
    obtain ⟨i, rfl⟩ := Int.eq_ofNat_of_zero_le HX.out.1
    have hil : i < l.length := by have := HX.out; omega
    have HJ := Aside0.mk hje
    have HIL := Aside0.mk hil
    have hlc := (Kd.R_reads' HR.out).2.1
    have hcl : ∀ ty, (Builtin.clear_ #[44] ty #[.slice (some ⟨go, i * 4, none⟩) (l.length - i) (c0 - i)]).run Try.prog wr = .ok (.tuple #[]) (wr.setCells go (i * 4) (List.replicate ((l.length - i) * 4) (.int .i64 0))) := fun ty => impl_Mat_111.clear_run HR.out i hil ty _
    clear c4 hje
    go_wp2
    go_ret
    obtain ⟨xs', q1, q2, q3, q4⟩ := impl_Mat_111.clear_row (l.length - i) wr i m HR.out (by have := HIL.out; omega)
    have hv := HV.out
    have hm := hv.1
    have hR := Kd.R_take q3 (m := i) (by rw [q2, hm]; have := HIL.out; omega)
    have hfin : xs'.take i = l.filter fun x => !p x := by
     have h2 := hv.2.1
     rw [Int.toNat_natCast, HJ.out, Int.toNat_natCast, List.take_length] at h2
     rw [q1, h2]
    rw [hfin] at hR
    exact ⟨_, rfl, hR, HBW.out.grown q4 HBW.out.size (fun k_ e_ => by injection e_ with e_; subst e_; exact gb), Kept.of_grown q4 HKP.out (fun k_ e_ => HR.out.1 k_ e_)⟩

/-! ### impl_norm: function 122 -/
def impl_norm.f (a0 : Int) (a1_0 : Int) (a1_1 : Int) : Option (Int) := some (wrap64 ((wrap64 ((wrap64 (a1_0 * a1_0)) + (wrap64 ((wrap64 (a0 * a1_0)) * a1_1)))) + (wrap64 (a1_1 * a1_1))))
set_option maxHeartbeats 8000000 in
set_option maxRecDepth 100000 in
theorem impl_norm.calls (a0 : Int) (a1_0 : Int) (a1_1 : Int) (r : Int) (w : World) (h : impl_norm.f a0 a1_0 a1_1 = some r) :
  Calls Try.prog 122 #[.int .i64 a0, .agg #[.int .i64 a1_0, .int .i64 a1_1]] w fun e w' => e = .returned (.int .i64 r) ∧ Below w.heap.size w w' := by
 have hu53 := Try.underlying53
 have HB := asd (Below.refl w.heap.size w)
 have H : (some (wrap64 ((wrap64 ((wrap64 (a1_0 * a1_0)) + (wrap64 ((wrap64 (a0 * a1_0)) * a1_1)))) + (wrap64 (a1_1 * a1_1))))) = some r := h
 clear h
 obtain rfl := Option.some.inj H
 go_enter Try.func122, Try.ntmps122
 go_wp2_with (first | ((with_reducible refine gd 3 rfl ?_); refine bx #[.int .i64 a1_0, .int .i64 a1_1] 53 ?_; intro gb389 hg w3 BK389 hb; have GE389 := ngw0 hg HB; replace HB := bS0 HB hb; clear hb hg; obtain ⟨hcz4_0, hcz4_1, hfz4_0, hfz4_1⟩ := bz2 BK389))
 go_ret
 exact er (bbw1 HB GE389)
end Go.Proofs.Ytcchmdodifkloaa.PA
