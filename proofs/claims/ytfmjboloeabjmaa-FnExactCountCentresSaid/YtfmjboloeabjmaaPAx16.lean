/- Walks written by program: each Go function that the law reaches comes to the plain function beside it. -/
import Derived.Test.YtfmjboloeabjmaaPAx0
import Derived.Test.YtfmjboloeabjmaaPAx2
import Derived.Test.YtfmjboloeabjmaaPAx12
import Derived.Test.YtfmjboloeabjmaaPAx15
namespace Go.Proofs.Ytfmjboloeabjmaa.PA
open Go.RowKit Go.Proofs.YtfmjboloeabjmaaW.PrintWords Go.Proofs.YtfmjboloeabjmaaW.PrintLast Go.Proofs.YtfmjboloeabjmaaW.PrintMore
attribute [local go_sem] max2_int min2_int max_two min_two max_three min_three max_four min_four   -- for this text's walks alone
set_option linter.unusedVariables false
set_option linter.unusedSimpArgs false

/-! ### impl_groupCode: function 14 -/
def impl_groupCode.l0 : Nat → Int → List (List (S44)) → Int → Int → Int → Int → Int → Option (Int)
 | 0, _, _, _, _, _, _, _ => none
 | k + 1, x0, x16, x17, x18, x524000, x524001, x524002 => if x18 < x17 then (if 0 ≤ x18 then (if x18 < (x16.length : Int) then ((impl_isGroup.f k x0 x524000 x524001 x524002 (rd_L10 x16 x18)).bind fun t526 => (if t526 = true then (impl_groupCode.l0 k x0 x16 x17 (wrap64 (x18 + 1)) x524000 x524001 x524002) else (some 2))) else (none)) else (none)) else (some 0)
def impl_groupCode.f (k : Nat) (a0 : Int) (a1_0 : Int) (a1_1 : Int) (a1_2 : Int) (l2 : List (List (S44))) : Option (Int) := (impl_frameCode.f a0 a1_0 a1_1 a1_2).bind fun t524 => (if t524 = 0 then (impl_groupCode.l0 k a0 l2 (l2.length : Int) 0 a1_0 a1_1 a1_2) else (some t524))
set_option maxHeartbeats 8000000 in
set_option maxRecDepth 100000 in
theorem impl_groupCode.calls (k : Nat) (a0 : Int) (a1_0 : Int) (a1_1 : Int) (a1_2 : Int) (A2 : Option Addr) (c2 : Nat) (l2 : List (List (S44))) (r : Int) (w : World) (hr2 : Kd.C (Kd.slice 44 k44) w A2 l2.length l2) (hc2 : l2.length ≤ c2) (h : impl_groupCode.f k a0 a1_0 a1_1 a1_2 l2 = some r) :
  Calls Try.prog 14 #[.int .i64 a0, .agg #[.int .i64 a1_0, .int .i64 a1_1, .int .i64 a1_2], .slice A2 l2.length c2] w fun e w' => e = .returned (.int .i64 r) ∧ Below w.heap.size w w' := by
 have hu28 := Try.underlying28
 have HR2 := Aside0.mk hr2
 have HC2 := Aside0.mk hc2
 clear hr2 hc2
 have HB := asd (Below.refl w.heap.size w)
 have H : ((impl_frameCode.f a0 a1_0 a1_1 a1_2).bind fun t524 => (if t524 = 0 then (impl_groupCode.l0 k a0 l2 (l2.length : Int) 0 a1_0 a1_1 a1_2) else (some t524))) = some r := h
 clear h
 obtain ⟨t524, A4, H⟩ := ob H
 try dsimp only at H
 by_cases c5 : t524 = 0
 rw [if_pos c5] at H
 have c5b0 : (t524 == 0) = true := beq_iff_eq.mpr c5
 have c5b1 : (t524 != 0) = false := bne_eq_false_iff_eq.mpr c5
 clear c5
 have H' := Aside0.mk H
 clear H
 rotate_left
 rw [if_neg c5] at H
 have c5b0 : (t524 == 0) = false := beq_eq_false_iff_ne.mpr c5
 have c5b1 : (t524 != 0) = true := bne_iff_ne.mpr c5
 obtain rfl := Option.some.inj H
 rotate_left
 all_goals
  go_enter Try.func14, Try.ntmps14
  go_wp2_with (first | ((with_reducible refine gd 4 rfl ?_); refine bx #[.int .i64 a1_0, .int .i64 a1_1, .int .i64 a1_2] 28 ?_; intro gb523 hg w6 BK523 hb; have GE523 := ngw0 hg HB; replace HB := bS0 HB hb; clear hb hg; obtain ⟨hcz7_0, hcz7_1, hcz7_2, hfz7_0, hfz7_1, hfz7_2⟩ := bz3 BK523) | ((with_reducible refine gate_callee (f := 34) rfl ?_); refine gl 12 Try.func34 #[.int .i64 a0, .agg #[.int .i64 a1_0, .int .i64 a1_1, .int .i64 a1_2]] ?_; (with_reducible refine (impl_frameCode.calls _ _ _ _ _ _ A4.out).mono ?_); rintro e w8 ⟨rfl, hb⟩; refine ⟨_, rfl, ?_⟩; replace BK523 := bB BK523 hb; replace HB := bS1 HB GE523 hb; (try clear hb)))
 ·go_loopg [18] k (fun kq v18 w' => ∃ (x18_1 : Int), v18 = .int .i64 x18_1 ∧ Aside0 (impl_groupCode.l0 kq a0 l2 (l2.length : Int) x18_1 a1_0 a1_1 a1_2 = some r) ∧ Aside0 (kq ≤ k) ∧ Aside0 (w'.heap[gb523]? = some (.cells #[.int .i64 a1_0, .int .i64 a1_1, .int .i64 a1_2] 28 (0, 0))) ∧ Aside0 (Below w.heap.size w w'))
  case atStart => exact ⟨(0), (by first | rfl | (simp; done) | (simp [*]; done)), H', ⟨Nat.le_refl _⟩, ⟨bkp BK523⟩, ⟨bbw1 HB GE523⟩⟩
  case round =>
   clear H'
   try clear c1
   try clear c2
   try clear p2
   try clear c3
   try clear c5
   try clear c5b0
   try clear c5b1
   try clear hcz7_0
   try clear hcz7_1
   try clear hcz7_2
   try clear hfz7_0
   try clear hfz7_1
   try clear hfz7_2
   obtain ⟨x18_1, rfl, HA, HK1, BK523, HB⟩ := hrel
   cases gk with
   | zero => exact absurd HA.out (by simp [impl_groupCode.l0])
   | succ k1 =>
    have H := HA.out
    clear HA
    simp only [impl_groupCode.l0] at H
    by_cases c9 : x18_1 < (l2.length : Int)
    rw [if_pos c9] at H
    have c9b0 := decide_eq_true c9
    clear c9
    by_cases c10 : 0 ≤ x18_1
    rw [if_pos c10] at H
    have c10b0 := decide_eq_true c10
    clear c10
    by_cases c11 : x18_1 < (l2.length : Int)
    rw [if_pos c11] at H
    have c11b0 := decide_eq_true c11
    clear c11
    obtain ⟨t526, A12, H⟩ := ob H
    try dsimp only at H
    by_cases c13 : t526 = true
    subst c13
    replace H := ifT H
    have H' := Aside0.mk H
    clear H
    rotate_left
    replace c13 := Bool.eq_false_iff.mpr c13
    subst c13
    replace H := ifF H
    obtain rfl := Option.some.inj H
    rotate_left
    ·rw [if_neg c11] at H
     exact absurd H (by simp)
    ·rw [if_neg c10] at H
     exact absurd H (by simp)
    rw [if_neg c9] at H
    have c9b0 := decide_eq_false c9
    clear c9
    obtain rfl := Option.some.inj H
    rotate_left
    rotate_left 2
    ·go_wp2
     go_ret
     exact er (bbw1 HB GE523)
    all_goals
     have p525 : 0 ≤ (x18_1 : Int) := od
     have q525 : x18_1 < (l2.length : Int) := od
     obtain ⟨ad525, A525_0, c525_0, e525, hx525_0, hl525_0, hi525_0⟩ := at_L10 HR2.out x18_1 p525 q525
     cases e525
     replace hx525_0 := xb HB hx525_0
     have HR525_0 := Aside0.mk hi525_0
     have HC525_0 := Aside0.mk hl525_0
     clear hi525_0 hl525_0
     replace p525 := eq_true p525
     replace q525 := eq_true q525
     obtain ⟨hcz14_0, hcz14_1, hcz14_2, hfz14_0, hfz14_1, hfz14_2⟩ := bz3 BK523
     go_wp2_with (first | ((with_reducible refine gate_callee (f := 35) rfl ?_); refine gl 25 Try.func35 #[.int .i64 a0, .agg #[.int .i64 a1_0, .int .i64 a1_1, .int .i64 a1_2], .slice A525_0 (rd_L10 l2 x18_1).length c525_0] ?_; (with_reducible refine (impl_isGroup.calls _ _ _ _ _ _ _ _ _ _ ?side1 ?side2 A12.out).mono ?_); (case side1 => exact ks (Kd.C_below HR525_0.out HB.out)); (case side2 => exact HC525_0.out); rintro e w15 ⟨rfl, hb⟩; refine ⟨_, rfl, ?_⟩; replace BK523 := bB BK523 hb; replace HB := bS1 HB GE523 hb; (try clear hb)))
    ·go_roundg k1
     case measure => have := HK1.out; omega
     case rel => exact ⟨(wrap64 (x18_1 + 1)), (by first | rfl | (simp; done) | (simp [*]; done)), H', ⟨by have := HK1.out; omega⟩, ⟨bkp BK523⟩, ⟨bbw1 HB GE523⟩⟩
    ·go_ret
     exact er (bbw1 HB GE523)
 ·go_ret
  exact er (bbw1 HB GE523)
/-! ### impl_Mat_det: function 16 -/
def impl_Mat_det.f (a0_0 : Int) (a0_1 : Int) (a0_2 : Int) (a0_3 : Int) : Option (Int) := some (wrap64 ((wrap64 (a0_0 * a0_3)) - (wrap64 (a0_1 * a0_2))))
set_option maxHeartbeats 8000000 in
set_option maxRecDepth 100000 in
theorem impl_Mat_det.calls (a0_0 : Int) (a0_1 : Int) (a0_2 : Int) (a0_3 : Int) (r : Int) (w : World) (h : impl_Mat_det.f a0_0 a0_1 a0_2 a0_3 = some r) :
  Calls Try.prog 16 #[.agg #[.int .i64 a0_0, .int .i64 a0_1, .int .i64 a0_2, .int .i64 a0_3]] w fun e w' => e = .returned (.int .i64 r) ∧ Below w.heap.size w w' := by
 have hu40 := Try.underlying40
 have HB := asd (Below.refl w.heap.size w)
 have H : (some (wrap64 ((wrap64 (a0_0 * a0_3)) - (wrap64 (a0_1 * a0_2))))) = some r := h
 clear h
 obtain rfl := Option.some.inj H
 go_enter Try.func16, Try.ntmps16
 go_wp2_with (first | ((with_reducible refine gd 1 rfl ?_); refine bx #[.int .i64 a0_0, .int .i64 a0_1, .int .i64 a0_2, .int .i64 a0_3] 40 ?_; intro gb527 hg w2 BK527 hb; have GE527 := ngw0 hg HB; replace HB := bS0 HB hb; clear hb hg; obtain ⟨hcz3_0, hcz3_1, hcz3_2, hcz3_3, hfz3_0, hfz3_1, hfz3_2, hfz3_3⟩ := bz4 BK527))
 go_ret
 exact er (bbw1 HB GE527)

attribute [local go_sem high] eqA40
/-! ### impl_Mat_order: function 17 -/
mutual
def impl_Mat_order.j0 : Nat → Int → Bool → Int → Int → Int → Int → Option (Int)
 | 0, _, _, _, _, _, _ => none
 | k + 1, x3, x13, x529000, x529001, x529002, x529003 => if x13 = true then (impl_Mat_order.j1 k x3 x13 x529000 x529001 x529002 x529003) else (impl_Mat_order.j1 k x3 (x529000 == (-1) && (x529001 == 0 && (x529002 == 0 && (x529003 == (-1))))) x529000 x529001 x529002 x529003)
def impl_Mat_order.j1 : Nat → Int → Bool → Int → Int → Int → Int → Option (Int)
 | 0, _, _, _, _, _, _ => none
 | k + 1, x3, x13, x529000, x529001, x529002, x529003 => if x13 = true then (some 2) else ((impl_Mat_det.f x529000 x529001 x529002 x529003).bind fun t534 => (if t534 = 1 then (impl_Mat_order.j2 k x3 (x3 == (-1)) x529000 x529001 x529002 x529003) else (impl_Mat_order.j2 k x3 false x529000 x529001 x529002 x529003)))
def impl_Mat_order.j2 : Nat → Int → Bool → Int → Int → Int → Int → Option (Int)
 | 0, _, _, _, _, _, _ => none
 | k + 1, x3, x24, x529000, x529001, x529002, x529003 => if x24 = true then (some 3) else ((impl_Mat_det.f x529000 x529001 x529002 x529003).bind fun t535 => (if t535 = 1 then (impl_Mat_order.j3 k x3 (x3 == 0) x529000 x529001 x529002 x529003) else (impl_Mat_order.j3 k x3 false x529000 x529001 x529002 x529003)))
def impl_Mat_order.j3 : Nat → Int → Bool → Int → Int → Int → Int → Option (Int)
 | 0, _, _, _, _, _, _ => none
 | k + 1, x3, x32, x529000, x529001, x529002, x529003 => if x32 = true then (some 4) else ((impl_Mat_det.f x529000 x529001 x529002 x529003).bind fun t536 => (if t536 = 1 then (if x3 = 1 then (some 6) else (some 0)) else (some 0)))
end
def impl_Mat_order.f (k : Nat) (a0_0 : Int) (a0_1 : Int) (a0_2 : Int) (a0_3 : Int) : Option (Int) := (impl_unit.f).bind fun bt529 => (if (a0_0 == bt529.1 && (a0_1 == bt529.2.1 && (a0_2 == bt529.2.2.1 && (a0_3 == bt529.2.2.2)))) = true then (some 1) else ((impl_Mat_det.f a0_0 a0_1 a0_2 a0_3).bind fun t533 => (if t533 = (-1) then (impl_Mat_order.j0 k (wrap64 (a0_0 + a0_3)) ((wrap64 (a0_0 + a0_3)) == 0) a0_0 a0_1 a0_2 a0_3) else (impl_Mat_order.j0 k (wrap64 (a0_0 + a0_3)) false a0_0 a0_1 a0_2 a0_3))))
set_option maxHeartbeats 8000000 in
set_option maxRecDepth 100000 in
theorem impl_Mat_order.calls (k : Nat) (a0_0 : Int) (a0_1 : Int) (a0_2 : Int) (a0_3 : Int) (r : Int) (w : World) (h : impl_Mat_order.f k a0_0 a0_1 a0_2 a0_3 = some r) :
  Calls Try.prog 17 #[.agg #[.int .i64 a0_0, .int .i64 a0_1, .int .i64 a0_2, .int .i64 a0_3]] w fun e w' => e = .returned (.int .i64 r) ∧ Below w.heap.size w w' := by
 have hu40 := Try.underlying40
 have HB := asd (Below.refl w.heap.size w)
 have H : ((impl_unit.f).bind fun bt529 => (if (a0_0 == bt529.1 && (a0_1 == bt529.2.1 && (a0_2 == bt529.2.2.1 && (a0_3 == bt529.2.2.2)))) = true then (some 1) else ((impl_Mat_det.f a0_0 a0_1 a0_2 a0_3).bind fun t533 => (if t533 = (-1) then (impl_Mat_order.j0 k (wrap64 (a0_0 + a0_3)) ((wrap64 (a0_0 + a0_3)) == 0) a0_0 a0_1 a0_2 a0_3) else (impl_Mat_order.j0 k (wrap64 (a0_0 + a0_3)) false a0_0 a0_1 a0_2 a0_3))))) = some r := h
 clear h
 obtain ⟨⟨t529, t530, t531, t532⟩, A2, H⟩ := ob H
 try dsimp only at H
 by_cases c3 : (a0_0 == t529 && (a0_1 == t530 && (a0_2 == t531 && (a0_3 == t532)))) = true
 rw [if_pos c3] at H
 have c3b0 := c3
 (try (have c3b1 : decide (a0_0 = t529 && (a0_1 == t530 && (a0_2 == t531 && (a0_3 == t532)))) = true := by simpa using c3))
 (try (have c3b2 : (a0_0 == t529 && (a0_1 == t530 && (a0_2 == t531 && (a0_3 == t532)))) = true := by simpa using c3))
 clear c3
 obtain rfl := Option.some.inj H
 rotate_left
 rw [if_neg c3] at H
 have c3b0 : (a0_0 == t529 && (a0_1 == t530 && (a0_2 == t531 && (a0_3 == t532)))) = false := by simpa using c3
 (try (have c3b1 : decide (a0_0 = t529 && (a0_1 == t530 && (a0_2 == t531 && (a0_3 == t532)))) = false := by simpa using c3))
 (try (have c3b2 : (a0_0 == t529 && (a0_1 == t530 && (a0_2 == t531 && (a0_3 == t532)))) = false := by simpa using c3))
 (try (have c3b3 : ¬ (a0_0 = t529 && (a0_1 == t530 && (a0_2 == t531 && (a0_3 == t532)))) := by simpa using c3))
 clear c3
 rotate_left
 go_enter Try.func17, Try.ntmps17
 try go_wp2_with (first | ((with_reducible refine gd 1 rfl ?_); refine bx #[.int .i64 a0_0, .int .i64 a0_1, .int .i64 a0_2, .int .i64 a0_3] 40 ?_; intro gb528 hg w4 BK528 hb; have GE528 := ngw0 hg HB; replace HB := bS0 HB hb; clear hb hg; obtain ⟨hcz5_0, hcz5_1, hcz5_2, hcz5_3, hfz5_0, hfz5_1, hfz5_2, hfz5_3⟩ := bz4 BK528))
 rotate_left
 have HC8 := Aside0.mk H
 clear H
 go_enter Try.func17, Try.ntmps17
 try go_wp2_with (first | ((with_reducible refine gd 1 rfl ?_); refine bx #[.int .i64 a0_0, .int .i64 a0_1, .int .i64 a0_2, .int .i64 a0_3] 40 ?_; intro gb528 hg w4 BK528 hb; have GE528 := ngw0 hg HB; replace HB := bS0 HB hb; clear hb hg; obtain ⟨hcz10_0, hcz10_1, hcz10_2, hcz10_3, hfz10_0, hfz10_1, hfz10_2, hfz10_3⟩ := bz4 BK528))
 rotate_left
 all_goals
  replace BK528 := asd (blk_drew BK528.out)
  replace HB := asd (below_drew1 HB.out)
  refine sh 4 (eb4 BK528) (fun hHeld => ?_)
  generalize w4.drew = w6 at BK528 HB hHeld ⊢
  refine take_ (i := 0) (N := some 10) (v := ?_) (a' := ?_) (bT 4 1) rfl rfl (by kernel_rfl) (fun _ _ _ h => h) (Or.inl ⟨by rfl, ?_⟩) hHeld ?_ ?_
  rotate_left
  ·rintro w' ⟨s0, s1, s2, s3⟩
   go_simp
   with_reducible rfl
  rotate_left
  ·simp only [Act.put, sA, sB, sC, i64_w, i32_w]
   rfl
  refine one_ (i := 1) (N := some 11) (bT 4 2) rfl rfl (by kernel_rfl) (by decide) (fun K hK => ?_)
  refine gs Try.func36 #[] ?_
  with_reducible refine (impl_unit.calls _ _ _ _ _ A2.out).mono ?_
  rintro e w7 ⟨rfl, hb⟩
  refine ⟨_, rfl, ?_⟩
  replace BK528 := bB BK528 hb
  replace HB := bS1 HB GE528 hb
  (try clear hb)
  (try clear hb2)
  (try clear hk)
  (try clear hi)
  refine hK.out _ _ (eb4 BK528).out (fun hHeld => ?_)
  clear hK K
  refine norm_ (a' := ?_) ?_ ?_
  rotate_left
  ·show Act.put _ (some 11) _ = _
   simp only [Act.put, sA, sB, sC, i64_w, i32_w]
   rfl
  refine pure_ (i := 2) (N := some 12) (v := ?_) (a' := ?_) (bT 4 3) rfl rfl (by kernel_rfl) (fun _ _ _ h => h) (Or.inl ⟨by rfl, ?_⟩) ?_ ?_
  rotate_left
  ·intro w'
   go_simp
   with_reducible rfl
  rotate_left
  ·simp only [Act.put, sA, sB, sC, i64_w, i32_w]
   rfl
  refine pure_ (i := 3) (N := some 9) (v := ?_) (a' := ?_) (bT 4 4) rfl rfl (by kernel_rfl) (fun _ _ _ h => h) (Or.inl ⟨by rfl, ?_⟩) ?_ ?_
  rotate_left
  ·intro w'
   go_simp
   with_reducible rfl
  rotate_left
  ·simp only [Act.put, sA, sB, sC, i64_w, i32_w]
   rfl
  refine done_ (by kernel_rfl) ?_
 ·try go_wp2
  go_ret
  exact er (bbw1 HB GE528)
 ·go_upto_region 4 with (fail)
  go_cut [13] (fun v13 wc => ∃ (kq : Nat) (x13_7 : Bool), v13 = .bool x13_7 ∧ Aside0 (impl_Mat_order.j0 kq (wrap64 (a0_0 + a0_3)) x13_7 a0_0 a0_1 a0_2 a0_3 = some r) ∧ Aside0 (kq ≤ k) ∧ Aside0 (wc.heap[gb528]? = some (.cells #[.int .i64 a0_0, .int .i64 a0_1, .int .i64 a0_2, .int .i64 a0_3] 40 (0, 0))) ∧ Aside0 (Below w.heap.size w wc))
  case first =>
   have H := HC8.out
   clear HC8
   obtain ⟨t533, A13, H⟩ := ob H
   try dsimp only at H
   by_cases c14 : t533 = (-1)
   rw [if_pos c14] at H
   have c14b0 : (t533 == (-1)) = true := beq_iff_eq.mpr c14
   have c14b1 : (t533 != (-1)) = false := bne_eq_false_iff_eq.mpr c14
   clear c14
   rotate_left
   rw [if_neg c14] at H
   have c14b0 : (t533 == (-1)) = false := beq_eq_false_iff_ne.mpr c14
   have c14b1 : (t533 != (-1)) = true := bne_iff_ne.mpr c14
   rotate_left
   all_goals
    (first | rw [c14b0] | (simp only [i64_w, i32_w]; rw [c14b0]) | skip)
    have H' := Aside0.mk H
    clear H
   obtain ⟨hcz15_0, hcz15_1, hcz15_2, hcz15_3, hfz15_0, hfz15_1, hfz15_2, hfz15_3⟩ := bz4 BK528
   rotate_left
   obtain ⟨hcz17_0, hcz17_1, hcz17_2, hcz17_3, hfz17_0, hfz17_1, hfz17_2, hfz17_3⟩ := bz4 BK528
   rotate_left
   all_goals
    go_wp2_with (first | ((with_reducible refine gate_callee (f := 16) rfl ?_); refine gl 15 Try.func16 #[.agg #[.int .i64 a0_0, .int .i64 a0_1, .int .i64 a0_2, .int .i64 a0_3]] ?_; (with_reducible refine (impl_Mat_det.calls _ _ _ _ _ _ A13.out).mono ?_); rintro e w16 ⟨rfl, hb⟩; refine ⟨_, rfl, ?_⟩; replace BK528 := bB BK528 hb; replace HB := bS1 HB GE528 hb; (try clear hb)))
    go_meet
   ·case rel => exact ⟨_, (((wrap64 (a0_0 + a0_3)) == 0)), (by first | rfl | (simp; done) | (simp [*]; done)), H', ⟨by first | omega | exact Nat.le_refl _⟩, ⟨bkp BK528⟩, ⟨bbw1 HB GE528⟩⟩
   ·case rel => exact ⟨_, (false), (by first | rfl | (simp; done) | (simp [*]; done)), H', ⟨by first | omega | exact Nat.le_refl _⟩, ⟨bkp BK528⟩, ⟨bbw1 HB GE528⟩⟩
  case rest =>
   clear HC8
   try clear c1
   try clear p2
   try clear c3
   try clear c3b0
   try clear c3b1
   try clear c3b2
   try clear p6
   try clear c14
   try clear c14b0
   try clear c14b1
   try clear c16
   try clear c17
   try clear hcz10_0
   try clear hcz10_1
   try clear hcz10_2
   try clear hcz10_3
   try clear hcz15_0
   try clear hcz15_1
   try clear hcz15_2
   try clear hcz15_3
   try clear hcz17_0
   try clear hcz17_1
   try clear hcz17_2
   try clear hcz17_3
   try clear hcz5_0
   try clear hcz5_1
   try clear hcz5_2
   try clear hcz5_3
   try clear hfz10_0
   try clear hfz10_1
   try clear hfz10_2
   try clear hfz10_3
   try clear hfz15_0
   try clear hfz15_1
   try clear hfz15_2
   try clear hfz15_3
   try clear hfz17_0
   try clear hfz17_1
   try clear hfz17_2
   try clear hfz17_3
   try clear hfz5_0
   try clear hfz5_1
   try clear hfz5_2
   try clear hfz5_3
   obtain ⟨kq, x13_7, rfl, HA, HJ7, BK528, HB⟩ := hcut
   cases kq with
   | zero => exact absurd HA.out (by simp [impl_Mat_order.j0])
   | succ kj7 =>
    have H := HA.out
    clear HA
    simp only [impl_Mat_order.j0] at H
    have HC19 := Aside0.mk H
    clear H
    go_upto_if 13 with (fail)
    go_cut [13] (fun v13 wc => ∃ (kq : Nat) (x13_18 : Bool), v13 = .bool x13_18 ∧ Aside0 (impl_Mat_order.j1 kq (wrap64 (a0_0 + a0_3)) x13_18 a0_0 a0_1 a0_2 a0_3 = some r) ∧ Aside0 (kq ≤ kj7) ∧ Aside0 (wc.heap[gb528]? = some (.cells #[.int .i64 a0_0, .int .i64 a0_1, .int .i64 a0_2, .int .i64 a0_3] 40 (0, 0))) ∧ Aside0 (Below w.heap.size w wc))
    case first =>
     have H := HC19.out
     clear HC19
     by_cases c20 : x13_7 = true
     ·subst c20
      replace H := ifT H
      have H' := Aside0.mk H
      clear H
      go_wp2
      go_meet
      case rel => exact ⟨_, (true), (by first | rfl | (simp; done) | (simp [*]; done)), H', ⟨by have := HJ7.out; first | omega | exact Nat.le_refl _⟩, ⟨bkp BK528⟩, ⟨bbw1 HB GE528⟩⟩
     ·replace c20 := Bool.eq_false_iff.mpr c20
      subst c20
      replace H := ifF H
      have H' := Aside0.mk H
      clear H
      obtain ⟨hcz21_0, hcz21_1, hcz21_2, hcz21_3, hfz21_0, hfz21_1, hfz21_2, hfz21_3⟩ := bz4 BK528
      go_wp2
      go_meet
      case rel => exact ⟨_, ((a0_0 == (-1) && (a0_1 == 0 && (a0_2 == 0 && (a0_3 == (-1)))))), (by first | rfl | (simp; done) | (simp [*]; done)), H', ⟨by have := HJ7.out; first | omega | exact Nat.le_refl _⟩, ⟨bkp BK528⟩, ⟨bbw1 HB GE528⟩⟩
    case rest =>
     clear HC19
     try clear c1
     try clear c2
     try clear p2
     try clear c3
     try clear c3b0
     try clear c3b1
     try clear c3b2
     try clear p6
     try clear c14
     try clear c14b0
     try clear c14b1
     try clear c16
     try clear c17
     try clear c20
     try clear hcz10_0
     try clear hcz10_1
     try clear hcz10_2
     try clear hcz10_3
     try clear hcz15_0
     try clear hcz15_1
     try clear hcz15_2
     try clear hcz15_3
     try clear hcz17_0
     try clear hcz17_1
     try clear hcz17_2
     try clear hcz17_3
     try clear hcz21_0
     try clear hcz21_1
     try clear hcz21_2
     try clear hcz21_3
     try clear hcz5_0
     try clear hcz5_1
     try clear hcz5_2
     try clear hcz5_3
     try clear hfz10_0
     try clear hfz10_1
     try clear hfz10_2
     try clear hfz10_3
     try clear hfz15_0
     try clear hfz15_1
     try clear hfz15_2
     try clear hfz15_3
     try clear hfz17_0
     try clear hfz17_1
     try clear hfz17_2
     try clear hfz17_3
     try clear hfz21_0
     try clear hfz21_1
     try clear hfz21_2
     try clear hfz21_3
     try clear hfz5_0
     try clear hfz5_1
     try clear hfz5_2
     try clear hfz5_3
     try clear p2
     try clear p6
     obtain ⟨kq, x13_18, rfl, HA, HJ18, BK528, HB⟩ := hcut
     cases kq with
     | zero => exact absurd HA.out (by simp [impl_Mat_order.j1])
     | succ kj18 =>
      have H := HA.out
      clear HA
      simp only [impl_Mat_order.j1] at H
      by_cases c22 : x13_18 = true
      ·subst c22
       replace H := ifT H
       obtain rfl := Option.some.inj H
       go_wp2
       go_ret
       exact er (bbw1 HB GE528)
      ·replace c22 := Bool.eq_false_iff.mpr c22
       subst c22
       replace H := ifF H
       have HC23 := Aside0.mk H
       clear H
       go_upto_region 7 with (fail)
       go_cut [24] (fun v24 wc => ∃ (kq : Nat) (x24_22 : Bool), v24 = .bool x24_22 ∧ Aside0 (impl_Mat_order.j2 kq (wrap64 (a0_0 + a0_3)) x24_22 a0_0 a0_1 a0_2 a0_3 = some r) ∧ Aside0 (kq ≤ kj18) ∧ Aside0 (wc.heap[gb528]? = some (.cells #[.int .i64 a0_0, .int .i64 a0_1, .int .i64 a0_2, .int .i64 a0_3] 40 (0, 0))) ∧ Aside0 (Below w.heap.size w wc))
       case first =>
        have H := HC23.out
        clear HC23
        obtain ⟨t534, A24, H⟩ := ob H
        try dsimp only at H
        by_cases c25 : t534 = 1
        rw [if_pos c25] at H
        have c25b0 : (t534 == 1) = true := beq_iff_eq.mpr c25
        have c25b1 : (t534 != 1) = false := bne_eq_false_iff_eq.mpr c25
        clear c25
        rotate_left
        rw [if_neg c25] at H
        have c25b0 : (t534 == 1) = false := beq_eq_false_iff_ne.mpr c25
        have c25b1 : (t534 != 1) = true := bne_iff_ne.mpr c25
        rotate_left
        all_goals
         (first | rw [c25b0] | (simp only [i64_w, i32_w]; rw [c25b0]) | skip)
         have H' := Aside0.mk H
         clear H
        obtain ⟨hcz26_0, hcz26_1, hcz26_2, hcz26_3, hfz26_0, hfz26_1, hfz26_2, hfz26_3⟩ := bz4 BK528
        rotate_left
        obtain ⟨hcz28_0, hcz28_1, hcz28_2, hcz28_3, hfz28_0, hfz28_1, hfz28_2, hfz28_3⟩ := bz4 BK528
        rotate_left
        all_goals
         go_wp2_with (first | ((with_reducible refine gate_callee (f := 16) rfl ?_); refine gl 26 Try.func16 #[.agg #[.int .i64 a0_0, .int .i64 a0_1, .int .i64 a0_2, .int .i64 a0_3]] ?_; (with_reducible refine (impl_Mat_det.calls _ _ _ _ _ _ A24.out).mono ?_); rintro e w27 ⟨rfl, hb⟩; refine ⟨_, rfl, ?_⟩; replace BK528 := bB BK528 hb; replace HB := bS1 HB GE528 hb; (try clear hb)))
         go_meet
        ·case rel => exact ⟨_, (((wrap64 (a0_0 + a0_3)) == (-1))), (by first | rfl | (simp; done) | (simp [*]; done)), H', ⟨by have := HJ7.out; have := HJ18.out; first | omega | exact Nat.le_refl _⟩, ⟨bkp BK528⟩, ⟨bbw1 HB GE528⟩⟩
        ·case rel => exact ⟨_, (false), (by first | rfl | (simp; done) | (simp [*]; done)), H', ⟨by have := HJ7.out; have := HJ18.out; first | omega | exact Nat.le_refl _⟩, ⟨bkp BK528⟩, ⟨bbw1 HB GE528⟩⟩
       case rest =>
        clear HC23
        try clear c1
        try clear c2
        try clear p2
        try clear c3
        try clear c3b0
        try clear c3b1
        try clear c3b2
        try clear p6
        try clear c14
        try clear c14b0
        try clear c14b1
        try clear c16
        try clear c17
        try clear c20
        try clear c22
        try clear c25
        try clear c25b0
        try clear c25b1
        try clear hcz10_0
        try clear hcz10_1
        try clear hcz10_2
        try clear hcz10_3
        try clear hcz15_0
        try clear hcz15_1
        try clear hcz15_2
        try clear hcz15_3
        try clear hcz17_0
        try clear hcz17_1
        try clear hcz17_2
        try clear hcz17_3
        try clear hcz21_0
        try clear hcz21_1
        try clear hcz21_2
        try clear hcz21_3
        try clear hcz26_0
        try clear hcz26_1
        try clear hcz26_2
        try clear hcz26_3
        try clear hcz28_0
        try clear hcz28_1
        try clear hcz28_2
        try clear hcz28_3
        try clear hcz5_0
        try clear hcz5_1
        try clear hcz5_2
        try clear hcz5_3
        try clear hfz10_0
        try clear hfz10_1
        try clear hfz10_2
        try clear hfz10_3
        try clear hfz15_0
        try clear hfz15_1
        try clear hfz15_2
        try clear hfz15_3
        try clear hfz17_0
        try clear hfz17_1
        try clear hfz17_2
        try clear hfz17_3
        try clear hfz21_0
        try clear hfz21_1
        try clear hfz21_2
        try clear hfz21_3
        try clear hfz26_0
        try clear hfz26_1
        try clear hfz26_2
        try clear hfz26_3
        try clear hfz28_0
        try clear hfz28_1
        try clear hfz28_2
        try clear hfz28_3
        try clear hfz5_0
        try clear hfz5_1
        try clear hfz5_2
        try clear hfz5_3
        try clear p2
        try clear p6
        obtain ⟨kq, x24_22, rfl, HA, HJ22, BK528, HB⟩ := hcut
        cases kq with
        | zero => exact absurd HA.out (by simp [impl_Mat_order.j2])
        | succ kj22 =>
         have H := HA.out
         clear HA
         simp only [impl_Mat_order.j2] at H
         by_cases c30 : x24_22 = true
         ·subst c30
          replace H := ifT H
          obtain rfl := Option.some.inj H
          go_wp2
          go_ret
          exact er (bbw1 HB GE528)
         ·replace c30 := Bool.eq_false_iff.mpr c30
          subst c30
          replace H := ifF H
          have HC31 := Aside0.mk H
          clear H
          go_upto_region 9 with (fail)
          go_cut [32] (fun v32 wc => ∃ (kq : Nat) (x32_30 : Bool), v32 = .bool x32_30 ∧ Aside0 (impl_Mat_order.j3 kq (wrap64 (a0_0 + a0_3)) x32_30 a0_0 a0_1 a0_2 a0_3 = some r) ∧ Aside0 (kq ≤ kj22) ∧ Aside0 (wc.heap[gb528]? = some (.cells #[.int .i64 a0_0, .int .i64 a0_1, .int .i64 a0_2, .int .i64 a0_3] 40 (0, 0))) ∧ Aside0 (Below w.heap.size w wc))
          case first =>
           have H := HC31.out
           clear HC31
           obtain ⟨t535, A32, H⟩ := ob H
           try dsimp only at H
           by_cases c33 : t535 = 1
           rw [if_pos c33] at H
           have c33b0 : (t535 == 1) = true := beq_iff_eq.mpr c33
           have c33b1 : (t535 != 1) = false := bne_eq_false_iff_eq.mpr c33
           clear c33
           rotate_left
           rw [if_neg c33] at H
           have c33b0 : (t535 == 1) = false := beq_eq_false_iff_ne.mpr c33
           have c33b1 : (t535 != 1) = true := bne_iff_ne.mpr c33
           rotate_left
           all_goals
            (first | rw [c33b0] | (simp only [i64_w, i32_w]; rw [c33b0]) | skip)
            have H' := Aside0.mk H
            clear H
           obtain ⟨hcz34_0, hcz34_1, hcz34_2, hcz34_3, hfz34_0, hfz34_1, hfz34_2, hfz34_3⟩ := bz4 BK528
           rotate_left
           obtain ⟨hcz36_0, hcz36_1, hcz36_2, hcz36_3, hfz36_0, hfz36_1, hfz36_2, hfz36_3⟩ := bz4 BK528
           rotate_left
           all_goals
            go_wp2_with (first | ((with_reducible refine gate_callee (f := 16) rfl ?_); refine gl 34 Try.func16 #[.agg #[.int .i64 a0_0, .int .i64 a0_1, .int .i64 a0_2, .int .i64 a0_3]] ?_; (with_reducible refine (impl_Mat_det.calls _ _ _ _ _ _ A32.out).mono ?_); rintro e w35 ⟨rfl, hb⟩; refine ⟨_, rfl, ?_⟩; replace BK528 := bB BK528 hb; replace HB := bS1 HB GE528 hb; (try clear hb)))
            go_meet
           ·case rel => exact ⟨_, (((wrap64 (a0_0 + a0_3)) == 0)), (by first | rfl | (simp; done) | (simp [*]; done)), H', ⟨by have := HJ7.out; have := HJ18.out; have := HJ22.out; first | omega | exact Nat.le_refl _⟩, ⟨bkp BK528⟩, ⟨bbw1 HB GE528⟩⟩
           ·case rel => exact ⟨_, (false), (by first | rfl | (simp; done) | (simp [*]; done)), H', ⟨by have := HJ7.out; have := HJ18.out; have := HJ22.out; first | omega | exact Nat.le_refl _⟩, ⟨bkp BK528⟩, ⟨bbw1 HB GE528⟩⟩
          case rest =>
           clear HC31
           try clear c1
           try clear c2
           try clear p2
           try clear c3
           try clear c3b0
           try clear c3b1
           try clear c3b2
           try clear p6
           try clear c14
           try clear c14b0
           try clear c14b1
           try clear c16
           try clear c17
           try clear c20
           try clear c22
           try clear c25
           try clear c25b0
           try clear c25b1
           try clear c30
           try clear c33
           try clear c33b0
           try clear c33b1
           try clear c36
           try clear hcz10_0
           try clear hcz10_1
           try clear hcz10_2
           try clear hcz10_3
           try clear hcz15_0
           try clear hcz15_1
           try clear hcz15_2
           try clear hcz15_3
           try clear hcz17_0
           try clear hcz17_1
           try clear hcz17_2
           try clear hcz17_3
           try clear hcz21_0
           try clear hcz21_1
           try clear hcz21_2
           try clear hcz21_3
           try clear hcz26_0
           try clear hcz26_1
           try clear hcz26_2
           try clear hcz26_3
           try clear hcz28_0
           try clear hcz28_1
           try clear hcz28_2
           try clear hcz28_3
           try clear hcz34_0
           try clear hcz34_1
           try clear hcz34_2
           try clear hcz34_3
           try clear hcz36_0
           try clear hcz36_1
           try clear hcz36_2
           try clear hcz36_3
           try clear hcz5_0
           try clear hcz5_1
           try clear hcz5_2
           try clear hcz5_3
           try clear hfz10_0
           try clear hfz10_1
           try clear hfz10_2
           try clear hfz10_3
           try clear hfz15_0
           try clear hfz15_1
           try clear hfz15_2
           try clear hfz15_3
           try clear hfz17_0
           try clear hfz17_1
           try clear hfz17_2
           try clear hfz17_3
           try clear hfz21_0
           try clear hfz21_1
           try clear hfz21_2
           try clear hfz21_3
           try clear hfz26_0
           try clear hfz26_1
           try clear hfz26_2
           try clear hfz26_3
           try clear hfz28_0
           try clear hfz28_1
           try clear hfz28_2
           try clear hfz28_3
           try clear hfz34_0
           try clear hfz34_1
           try clear hfz34_2
           try clear hfz34_3
           try clear hfz36_0
           try clear hfz36_1
           try clear hfz36_2
           try clear hfz36_3
           try clear hfz5_0
           try clear hfz5_1
           try clear hfz5_2
           try clear hfz5_3
           try clear p2
           try clear p6
           obtain ⟨kq, x32_30, rfl, HA, HJ30, BK528, HB⟩ := hcut
           cases kq with
           | zero => exact absurd HA.out (by simp [impl_Mat_order.j3])
           | succ kj30 =>
            have H := HA.out
            clear HA
            simp only [impl_Mat_order.j3] at H
            by_cases c38 : x32_30 = true
            subst c38
            replace H := ifT H
            obtain rfl := Option.some.inj H
            rotate_left
            replace c38 := Bool.eq_false_iff.mpr c38
            subst c38
            replace H := ifF H
            obtain ⟨t536, A39, H⟩ := ob H
            try dsimp only at H
            by_cases c40 : t536 = 1
            rw [if_pos c40] at H
            have c40b0 : (t536 == 1) = true := beq_iff_eq.mpr c40
            have c40b1 : (t536 != 1) = false := bne_eq_false_iff_eq.mpr c40
            clear c40
            by_cases c41 : (wrap64 (a0_0 + a0_3)) = 1
            rw [if_pos c41] at H
            have c41b0 : ((wrap64 (a0_0 + a0_3)) == 1) = true := beq_iff_eq.mpr c41
            have c41b1 : ((wrap64 (a0_0 + a0_3)) != 1) = false := bne_eq_false_iff_eq.mpr c41
            clear c41
            obtain rfl := Option.some.inj H
            rotate_left
            rw [if_neg c41] at H
            have c41b0 : ((wrap64 (a0_0 + a0_3)) == 1) = false := beq_eq_false_iff_ne.mpr c41
            have c41b1 : ((wrap64 (a0_0 + a0_3)) != 1) = true := bne_iff_ne.mpr c41
            obtain rfl := Option.some.inj H
            rotate_left
            rw [if_neg c40] at H
            have c40b0 : (t536 == 1) = false := beq_eq_false_iff_ne.mpr c40
            have c40b1 : (t536 != 1) = true := bne_iff_ne.mpr c40
            obtain rfl := Option.some.inj H
            rotate_left
            ·go_wp2
             go_ret
             exact er (bbw1 HB GE528)
            rotate_left 3
            all_goals
             obtain ⟨hcz42_0, hcz42_1, hcz42_2, hcz42_3, hfz42_0, hfz42_1, hfz42_2, hfz42_3⟩ := bz4 BK528
             go_wp2_with (first | ((with_reducible refine gate_callee (f := 16) rfl ?_); refine gl 42 Try.func16 #[.agg #[.int .i64 a0_0, .int .i64 a0_1, .int .i64 a0_2, .int .i64 a0_3]] ?_; (with_reducible refine (impl_Mat_det.calls _ _ _ _ _ _ A39.out).mono ?_); rintro e w43 ⟨rfl, hb⟩; refine ⟨_, rfl, ?_⟩; replace BK528 := bB BK528 hb; replace HB := bS1 HB GE528 hb; (try clear hb)))
             go_ret
             exact er (bbw1 HB GE528)
/-! ### impl_Vec_times: function 19 -/
def impl_Vec_times.f (a0_0 : Int) (a0_1 : Int) (a1 : Int) : Option (Int × Int) := some (wrap64 (a1 * a0_0), wrap64 (a1 * a0_1))
set_option maxHeartbeats 8000000 in
set_option maxRecDepth 100000 in
theorem impl_Vec_times.calls (a0_0 : Int) (a0_1 : Int) (a1 : Int) (r1 : Int) (r2 : Int) (w : World) (h : impl_Vec_times.f a0_0 a0_1 a1 = some (r1, r2)) :
  Calls Try.prog 19 #[.agg #[.int .i64 a0_0, .int .i64 a0_1], .int .i64 a1] w fun e w' => e = .returned (.agg #[.int .i64 r1, .int .i64 r2]) ∧ Below w.heap.size w w' := by
 have hu42 := Try.underlying42
 have HB := asd (Below.refl w.heap.size w)
 have H : (some (wrap64 (a1 * a0_0), wrap64 (a1 * a0_1))) = some (r1, r2) := h
 clear h
 simp only [Option.some.injEq, Prod.mk.injEq] at H
 obtain ⟨rfl, rfl⟩ := H
 go_enter Try.func19, Try.ntmps19
 go_wp2_with (first | ((with_reducible refine gd 2 rfl ?_); refine bx #[.int .i64 a0_0, .int .i64 a0_1] 42 ?_; intro gb537 hg w3 BK537 hb; have GE537 := ngw0 hg HB; replace HB := bS0 HB hb; clear hb hg) | ((with_reducible refine gd 4 rfl ?_); refine bx #[.int .i64 0, .int .i64 0] 42 ?_; intro gb538 hg w4 BK538 hb; have GE538 := ngw1 hg HB GE537; replace HB := bS1 HB GE537 hb; have NB537_538 := nlt hg BK537; have NB538_537 := nsy (nlt hg BK537); replace BK537 := bB BK537 hb; clear hb hg; have hnb5 := NB537_538.out; have hnc5 := NB538_537.out; obtain ⟨hcz6_0, hcz6_1, hfz6_0, hfz6_1⟩ := bz2 BK537; obtain ⟨hcz7_0, hcz7_1, hfz7_0, hfz7_1⟩ := bz2 BK538))
 refine bodyPost_ret (results_cell_row rfl _ _ gb538 42 #[.int .i64 (wrap64 (a1 * a0_0)), .int .i64 (wrap64 (a1 * a0_1))] (0, 0) _ rfl (bq0 BK538) Try.underlying42 rfl (by kernel_rfl)) rfl ?_
 exact er (bbw2 HB GE537 GE538)
/-! ### impl_gcd: function 37 -/
def impl_gcd.l0 : Nat → Int → Int → Option (Int)
 | 0, _, _ => none
 | k + 1, x0, x1 => if x1 = 0 then (some (mx x0 (wrap64 (-x0)))) else (impl_gcd.l0 k x1 (Int.tmod x0 x1))
def impl_gcd.f (k : Nat) (a0 : Int) (a1 : Int) : Option (Int) := impl_gcd.l0 k a0 a1
set_option maxHeartbeats 8000000 in
set_option maxRecDepth 100000 in
theorem impl_gcd.calls (k : Nat) (a0 : Int) (a1 : Int) (r : Int) (w : World) (h : impl_gcd.f k a0 a1 = some r) :
  Calls Try.prog 37 #[.int .i64 a0, .int .i64 a1] w fun e w' => e = .returned (.int .i64 r) ∧ Below w.heap.size w w' := by
 have HB := asd (Below.refl w.heap.size w)
 have H : (impl_gcd.l0 k a0 a1) = some r := h
 clear h
 have H' := Aside0.mk H
 clear H
 go_enter Try.func37, Try.ntmps37
 go_wp2
 repeat (go_quiet (fail); try go_wp2)
 go_loopg [0, 1] k (fun kq v0 v1 w' => ∃ (x0_1 : Int) (x1_1 : Int), v0 = .int .i64 x0_1 ∧ v1 = .int .i64 x1_1 ∧ Aside0 (impl_gcd.l0 kq x0_1 x1_1 = some r) ∧ Aside0 (kq ≤ k) ∧ Aside0 (Below w.heap.size w w'))
 case atStart => exact ⟨(a0), (a1), (by first | rfl | (simp; done) | (simp [*]; done)), (by first | rfl | (simp; done) | (simp [*]; done)), H', ⟨Nat.le_refl _⟩, ⟨bbw0 HB⟩⟩
 case round =>
  clear H'
  try clear p2
  obtain ⟨x0_1, x1_1, rfl, rfl, HA, HK1, HB⟩ := hrel
  cases gk with
  | zero => exact absurd HA.out (by simp [impl_gcd.l0])
  | succ k1 =>
   have H := HA.out
   clear HA
   simp only [impl_gcd.l0] at H
   by_cases c3 : x1_1 = 0
   ·rw [if_pos c3] at H
    have c3b0 : (x1_1 == 0) = true := beq_iff_eq.mpr c3
    have c3b1 : (x1_1 != 0) = false := bne_eq_false_iff_eq.mpr c3
    clear c3
    obtain ⟨ji4, hji4⟩ : ∃ j_ : Int, (mx x0_1 (wrap64 (-x0_1))) = j_ := ⟨_, rfl⟩
    replace H : (some ji4) = some r := by first | (rw [hji4] at H; first | done | exact H) | (simp only [hji4] at H ⊢; exact H)
    have hji4_ : (if x0_1 < (wrap64 (-x0_1)) then (wrap64 (-x0_1)) else x0_1) = ji4 := hji4
    obtain rfl := Option.some.inj H
    go_wp2
    repeat (go_quiet (fail); try go_wp2)
    go_ret
    exact ⟨by first | rfl | (simp [errW_none, errW_some] <;> rfl) | (simp only [← hji4]; first | rfl | (simp [errW_none, errW_some] <;> rfl)) | (simp [*, errW_none, errW_some] <;> rfl), bbw0 HB⟩
   ·rw [if_neg c3] at H
    have c3b0 : (x1_1 == 0) = false := beq_eq_false_iff_ne.mpr c3
    have c3b1 : (x1_1 != 0) = true := bne_iff_ne.mpr c3
    have H' := Aside0.mk H
    clear H
    go_wp2
    repeat (go_quiet (fail); try go_wp2)
    go_roundg k1
    case measure => have := HK1.out; omega
    case rel => exact ⟨(x1_1), (Int.tmod x0_1 x1_1), (by first | rfl | (simp; done) | (simp [*]; done)), (by first | rfl | (simp; done) | (simp [*]; done)), H', ⟨by have := HK1.out; omega⟩, ⟨bbw0 HB⟩⟩
/-! ### impl_Motion_centre: function 20 -/
def impl_Motion_centre.f (k : Nat) (a0_0 : Int) (a0_1 : Int) (a0_2 : Int) (a0_3 : Int) (a0_4 : Int) (a0_5 : Int) : Option (Int × Int × Int) := (impl_gcd.f k (wrap64 ((wrap64 ((wrap64 (1 - a0_3)) * a0_4)) + (wrap64 (a0_1 * a0_5)))) (wrap64 ((wrap64 (a0_2 * a0_4)) + (wrap64 ((wrap64 (1 - a0_0)) * a0_5))))).bind fun t542 => ((impl_gcd.f k t542 (wrap64 ((wrap64 (2 - a0_0)) - a0_3))).bind fun t543 => (if t543 = 0 then (none) else (some (wrap64 (Int.tdiv (wrap64 ((wrap64 ((wrap64 (1 - a0_3)) * a0_4)) + (wrap64 (a0_1 * a0_5)))) t543), wrap64 (Int.tdiv (wrap64 ((wrap64 (a0_2 * a0_4)) + (wrap64 ((wrap64 (1 - a0_0)) * a0_5)))) t543), wrap64 (Int.tdiv (wrap64 ((wrap64 (2 - a0_0)) - a0_3)) t543)))))
def impl_Motion_centre.T4 : Bool × List (List Nat × List Nat) := (true, [([], []), ([0], [0]), ([], []), ([1, 2], [1, 2]), ([], []), ([4], [4]), ([], []), ([5, 6], [5, 6]), ([3, 7], [3, 7]), ([], []), ([], []), ([9, 10], [9, 10]), ([8, 0, 1, 2, 3, 4, 5, 6, 7, 8], [8]), ([11, 12, 0, 1, 2, 3, 4, 5, 6, 7, 8, 9, 10, 11, 12], [11])])
def impl_Motion_centre.B4 : List Nat := [0, 1, 0, 7, 0, 16, 0, 112, 255, 0, 0, 1536, 511, 8191]
theorem impl_Motion_centre.tab4 : rtab .any (opsOf Try.f20 4) = impl_Motion_centre.T4 := by kernel_rfl
theorem impl_Motion_centre.bits4 : waitsOk impl_Motion_centre.T4.2 impl_Motion_centre.B4 = true := by kernel_rfl
set_option maxHeartbeats 8000000 in
set_option maxRecDepth 100000 in
theorem impl_Motion_centre.calls (k : Nat) (a0_0 : Int) (a0_1 : Int) (a0_2 : Int) (a0_3 : Int) (a0_4 : Int) (a0_5 : Int) (r1 : Int) (r2 : Int) (r3 : Int) (w : World) (h : impl_Motion_centre.f k a0_0 a0_1 a0_2 a0_3 a0_4 a0_5 = some (r1, r2, r3)) :
  Calls Try.prog 20 #[.agg #[.int .i64 a0_0, .int .i64 a0_1, .int .i64 a0_2, .int .i64 a0_3, .int .i64 a0_4, .int .i64 a0_5]] w fun e w' => e = .returned (.tuple #[.agg #[.int .i64 r1, .int .i64 r2], .int .i64 r3]) ∧ Below w.heap.size w w' := by
 have hu44 := Try.underlying44
 have hu42 := Try.underlying42
 have HB := asd (Below.refl w.heap.size w)
 have H : ((impl_gcd.f k (wrap64 ((wrap64 ((wrap64 (1 - a0_3)) * a0_4)) + (wrap64 (a0_1 * a0_5)))) (wrap64 ((wrap64 (a0_2 * a0_4)) + (wrap64 ((wrap64 (1 - a0_0)) * a0_5))))).bind fun t542 => ((impl_gcd.f k t542 (wrap64 ((wrap64 (2 - a0_0)) - a0_3))).bind fun t543 => (if t543 = 0 then (none) else (some (wrap64 (Int.tdiv (wrap64 ((wrap64 ((wrap64 (1 - a0_3)) * a0_4)) + (wrap64 (a0_1 * a0_5)))) t543), wrap64 (Int.tdiv (wrap64 ((wrap64 (a0_2 * a0_4)) + (wrap64 ((wrap64 (1 - a0_0)) * a0_5)))) t543), wrap64 (Int.tdiv (wrap64 ((wrap64 (2 - a0_0)) - a0_3)) t543)))))) = some (r1, r2, r3) := h
 clear h
 obtain ⟨t542, A2, H⟩ := ob H
 try dsimp only at H
 obtain ⟨t543, A3, H⟩ := ob H
 try dsimp only at H
 by_cases c4 : t543 = 0
 ·rw [if_pos c4] at H
  exact absurd H (by simp)
 ·rw [if_neg c4] at H
  have c4b0 : (t543 == 0) = false := beq_eq_false_iff_ne.mpr c4
  have c4b1 : (t543 != 0) = true := bne_iff_ne.mpr c4
  simp only [Option.some.injEq, Prod.mk.injEq] at H
  obtain ⟨rfl, rfl, rfl⟩ := H
  go_enter Try.func20, Try.ntmps20
  try go_wp2_with (first | ((with_reducible refine gd 1 rfl ?_); refine bx #[.int .i64 a0_0, .int .i64 a0_1, .int .i64 a0_2, .int .i64 a0_3, .int .i64 a0_4, .int .i64 a0_5] 44 ?_; intro gb539 hg w5 BK539 hb; have GE539 := ngw0 hg HB; replace HB := bS0 HB hb; clear hb hg) | ((with_reducible refine gd 2 rfl ?_); refine bx #[.int .i64 0, .int .i64 0] 42 ?_; intro gb540 hg w6 BK540 hb; have GE540 := ngw1 hg HB GE539; replace HB := bS1 HB GE539 hb; have NB539_540 := nlt hg BK539; have NB540_539 := nsy (nlt hg BK539); replace BK539 := bB BK539 hb; clear hb hg; have hnb7 := NB539_540.out; have hnc7 := NB540_539.out; obtain ⟨hcz8_0, hcz8_1, hcz8_2, hcz8_3, hcz8_4, hcz8_5, hfz8_0, hfz8_1, hfz8_2, hfz8_3, hfz8_4, hfz8_5⟩ := bz6 BK539) | ((with_reducible refine gd 5 rfl ?_); refine bx #[.int .i64 0, .int .i64 0] 42 ?_; intro gb541 hg w9 BK541 hb; have GE541 := ngw2 hg HB GE539 GE540; replace HB := bS2 HB GE539 GE540 hb; have NB539_541 := nlt hg BK539; have NB541_539 := nsy (nlt hg BK539); replace BK539 := bB BK539 hb; have NB540_541 := nlt hg BK540; have NB541_540 := nsy (nlt hg BK540); replace BK540 := bB BK540 hb; clear hb hg; have hnb10 := NB541_539.out; have hnc10 := NB539_541.out; have hnb11 := NB541_540.out; have hnc11 := NB540_541.out; obtain ⟨hcz12_0, hcz12_1, hfz12_0, hfz12_1⟩ := bz2 BK541) | ((with_reducible refine gate_callee (f := 37) rfl ?_); refine gl 52 Try.func37 #[.int .i64 (wrap64 ((wrap64 ((wrap64 (1 - a0_3)) * a0_4)) + (wrap64 (a0_1 * a0_5)))), .int .i64 (wrap64 ((wrap64 (a0_2 * a0_4)) + (wrap64 ((wrap64 (1 - a0_0)) * a0_5))))] ?_; (with_reducible refine (impl_gcd.calls _ _ _ _ _ A2.out).mono ?_); rintro e w13 ⟨rfl, hb⟩; refine ⟨_, rfl, ?_⟩; replace BK539 := asd (blk_below (g := gb539) (o := .cells #[.int .i64 a0_0, .int .i64 a0_1, .int .i64 a0_2, .int .i64 a0_3, .int .i64 a0_4, .int .i64 a0_5] 44 (0, 0)) (bq1 BK539 NB539_541) hb); replace BK540 := asd (blk_below (g := gb540) (o := .cells #[.int .i64 0, .int .i64 0] 42 (0, 0)) (bq1 BK540 NB540_541) hb); replace BK541 := asd (blk_below (g := gb541) (o := .cells #[.int .i64 (wrap64 ((wrap64 ((wrap64 (1 - a0_3)) * a0_4)) + (wrap64 (a0_1 * a0_5)))), .int .i64 (wrap64 ((wrap64 (a0_2 * a0_4)) + (wrap64 ((wrap64 (1 - a0_0)) * a0_5))))] 42 (0, 0)) (bq0 BK541) hb); replace HB := bS3 HB GE539 GE540 GE541 hb; (try clear hb)) | ((with_reducible refine gate_callee (f := 37) rfl ?_); refine gl 54 Try.func37 #[.int .i64 t542, .int .i64 (wrap64 ((wrap64 (2 - a0_0)) - a0_3))] ?_; (with_reducible refine (impl_gcd.calls _ _ _ _ _ A3.out).mono ?_); rintro e w14 ⟨rfl, hb⟩; refine ⟨_, rfl, ?_⟩; replace BK539 := bB BK539 hb; replace BK540 := bB BK540 hb; replace BK541 := bB BK541 hb; replace HB := bS3 HB GE539 GE540 GE541 hb; (try clear hb)))
  replace BK539 := asd (blk_drew BK539.out)
  replace BK540 := asd (blk_drew BK540.out)
  replace BK541 := asd (blk_drew BK541.out)
  replace HB := asd (below_drew1 HB.out)
  refine sh 14 (eb2 BK541) (fun hHeld => ?_); refine with_tabW impl_Motion_centre.tab4 impl_Motion_centre.bits4 (fun HT_ HW_ => ?_)
  generalize w14.drew = w15 at BK539 BK540 BK541 HB hHeld ⊢
  refine pu 0 (some 55) (bT 14 1) HT_ ?_
  refine pu 2 (some 57) (bs 14 5) HT_ ?_
  refine pu 4 (some 59) (bs 14 21) HT_ ?_
  refine pu 6 (some 61) (bs 14 85) HT_ ?_
  refine pu 9 (some 64) (bs 14 597) HT_ ?_
  refine pu 10 (some 65) (bs 14 1621) HT_ ?_
  refine pu 11 (some 66) (bs 14 3669) HT_ ?_
  refine ta 1 (some 56) (bs 14 3671) HT_ HW_ hHeld ?_
  refine pu 3 (some 58) (bs 14 3679) HT_ ?_
  refine ta 5 (some 60) (bs 14 3711) HT_ HW_ hHeld ?_
  refine pu 7 (some 62) (bs 14 3839) HT_ ?_
  refine pu 8 (some 63) (bT 14 12) HT_ ?_
  refine ro 12 (none) (bT 14 13) HT_ (fun K hK => ?_)
  have hs16 : w15.cell? ⟨gb540, 0, none⟩ = some (.int .i64 0) := bcl BK540 0
  have hfs16 := blk_frozen BK540.out 0
  have hns16_0 := NB539_540.out
  have hns16_2 := NB541_540.out
  have hms16_0 := NB540_539.out
  have hms16_2 := NB540_541.out
  have hs17 : w15.cell? ⟨gb540, 1, none⟩ = some (.int .i64 0) := bcl BK540 1
  have hfs17 := blk_frozen BK540.out 1
  have hns17_0 := NB539_540.out
  have hns17_2 := NB541_540.out
  have hms17_0 := NB540_539.out
  have hms17_2 := NB540_541.out
  refine skip_ (w1 := ?_) (by rfl) rfl ?_ ?_
  rotate_left
  ·go_simp
   rfl
  refine hK.out _ _ ⟨(cf2 NB541_540 (hHeld.1)), (cf2 NB541_540 (hHeld.2))⟩ (fun hHeld => ?_)
  clear hK K
  refine pu 13 (some 3) (bT 14 14) HT_ ?_
  refine done_ (done_of HT_.out (by kernel_rfl)) ?_
  try go_wp2
  refine bodyPost_ret (results_ct rfl _ _ gb540 42 #[.int .i64 (wrap64 (Int.tdiv (wrap64 ((wrap64 ((wrap64 (1 - a0_3)) * a0_4)) + (wrap64 (a0_1 * a0_5)))) t543)), .int .i64 (wrap64 (Int.tdiv (wrap64 ((wrap64 (a0_2 * a0_4)) + (wrap64 ((wrap64 (1 - a0_0)) * a0_5)))) t543))] (0, 0) _ rfl (bq0 BK540) Try.underlying42 rfl (by kernel_rfl)) rfl ?_
  exact er (bbw3 HB GE539 GE540 GE541)
/-! ### mapVe: function 99998 -/
theorem mapVe.wide : (match Try.prog.underlying 42 with | some (.array _ _) | some (.struct _) => true | _ => false) = true := by rw [Try.underlying42]
set_option maxRecDepth 100000 in
theorem mapVe.law : Go.Maps.Keyed Try.prog 42 := Go.Maps.Keyed.of_law (deep_law_laid (P := Try.prog) (by kernel_rfl) (m := 3) (by omega) (of_decide_eq_true (by kernel_rfl)) (by kernel_rfl) mapVe.wide)
def mapVe.enc (x : S42) : Value := .agg #[.int .i64 x.f0, .int .i64 x.f1]
def mapVe.lits (x : S42) : List Lit := [.int .i64 x.f0, .int .i64 x.f1]
/-- Do a motion's numbers fit? -/
def mapVe.wf (x : S42) : Bool := (mapVe.lits x).all Lit.wf
def mapVe.kl (x : S42) : Lit := .string (keyBytes (mapVe.lits x))
theorem mapVe.hkey (x : S42) (h : mapVe.wf x = true) : keyOf Try.prog 42 (mapVe.enc x) = some (mapVe.kl x) := by
 simp only [mapVe.wf, mapVe.lits, List.all_cons, List.all_nil, Bool.and_true, Bool.and_eq_true] at h
 obtain ⟨h0, h1⟩ := h
 have k2 : ∀ (d : Nat) (n : Int), (Lit.int .i64 n).wf = true → Try.prog.keyLits (d + 1) 2 [.int .i64 n] = some [.int .i64 n] := fun d n hn => by
  simp [Program.keyLits, Try.underlying2, hn]
 have hf : (mapVe.enc x).formed Try.prog 42 = true := by
  simp [Value.formed, mapVe.enc, Try.underlying42, show Try.prog.cellsOf 42 = 2 by kernel_rfl]
 have hk : Try.prog.keyType 42 = true := by kernel_rfl
 have hs : ∃ m, Try.prog.types.size = m + 2 := ⟨Try.prog.types.size - 2, by have : (2 : Nat) ≤ Try.prog.types.size := of_decide_eq_true (by kernel_rfl); omega⟩
 obtain ⟨m, hm⟩ := hs
 unfold keyOf
 rw [Try.underlying42, hm]
 dsimp only
 rw [hk, hf]
 unfold Program.keyLits
 rw [Try.underlying42]
 have c : Try.prog.cellsOf 42 = 2 := by kernel_rfl
 have c2 : Try.prog.cellsOf 2 = 1 := by kernel_rfl
 simp [mapVe.enc, Value.cells, c, c2, k2, h0, h1, mapVe.kl, mapVe.lits]
def mapVe.eqB (x y : S42) : Bool := x.f0 == y.f0 && x.f1 == y.f1
theorem mapVe.eqB_iff (x y : S42) : mapVe.eqB x y = true ↔ x = y := by
 obtain ⟨a, b⟩ := x
 obtain ⟨a', b'⟩ := y
 simp only [mapVe.eqB, Bool.and_eq_true, beq_iff_eq]
 constructor
 ·rintro ⟨rfl, rfl⟩; rfl
 ·intro h; cases h; exact ⟨rfl, rfl⟩
theorem mapVe.enc_inj {x y : S42} (h : mapVe.enc x = mapVe.enc y) : x = y := by
 obtain ⟨a, b⟩ := x
 obtain ⟨a', b'⟩ := y
 simp only [mapVe.enc, Value.agg.injEq, Array.mk.injEq, List.cons.injEq, Value.int.injEq, true_and, and_true] at h
 obtain ⟨rfl, rfl⟩ := h
 rfl
theorem mapVe.kl_inj {x y : S42} (hx : mapVe.wf x = true) (hy : mapVe.wf y = true) (h : mapVe.kl x = mapVe.kl y) : x = y := by
 have e1 := mapVe.hkey x hx
 have e2 := mapVe.hkey y hy
 rw [← h] at e2
 exact mapVe.enc_inj (mapVe.law.inj e1 e2)
/-- What the map reads as. -/
def mapVe.setD (xs : List S42) (D : DataW Unit) : DataW Unit := xs.foldl (fun D x => D.put (mapVe.kl x) (.lit (.bool true))) D
theorem mapVe.setD_at (y : S42) (hy : mapVe.wf y = true) : ∀ (xs : List S42) (D : DataW Unit) (b : Bool), (∀ x ∈ xs, mapVe.wf x = true) → Go.Maps.IsMap D → D.atKey (mapVe.kl y) (.lit (.bool false)) = .lit (.bool b) →
  (mapVe.setD xs D).atKey (mapVe.kl y) (.lit (.bool false)) = .lit (.bool (b || xs.any fun x => mapVe.eqB x y))
 | [], D, b, _, _, h => by simpa [mapVe.setD] using h
 | x :: xs, D, b, hw, hD, h => by
  have hx := hw x (List.mem_cons_self)
  have ih := mapVe.setD_at y hy xs (D.put (mapVe.kl x) (.lit (.bool true))) (b || mapVe.eqB x y) (fun z hz => hw z (List.mem_cons_of_mem _ hz)) (hD.put _ _) (by
   by_cases e : x = y
   ·subst e
    rw [Go.Maps.atKey_put_same hD (mapVe.law.key (mapVe.hkey x hx))]
    rw [(mapVe.eqB_iff x x).2 rfl, Bool.or_true]
   ·rw [Go.Maps.atKey_put_other (fun g => e (mapVe.kl_inj hx hy g.symm)), h]
    have : mapVe.eqB x y = false := Bool.eq_false_iff.2 (fun g => e ((mapVe.eqB_iff x y).1 g))
    rw [this, Bool.or_false])
  rw [List.any_cons, ← Bool.or_assoc]
  exact ih
/-- Block B is a map of the call's own whose keys are the motions of a list. -/
def mapVe.MS (w : World) (B : Nat) (xs : List S42) : Prop := (∀ x ∈ xs, mapVe.wf x = true) ∧ w.ownsMap Try.prog 42 (plainElem (H := Unit) Try.prog 4) B xs.length (mapVe.setD xs (.map []))
set_option maxRecDepth 100000 in
theorem mapVe.plain_inv {v : Value} {b : Bool} {ps : List MemPlace} (h : plainElem (H := Unit) Try.prog 4 v = some (.lit (.bool b), ps)) : v = .bool b := by
 unfold plainElem at h
 rw [Try.underlying4] at h
 cases v <;> simp at h
 rw [h.1]
theorem mapVe.MS_ne {w : World} {B : Nat} {xs : List S42} (h : mapVe.MS w B xs) {g : Nat} {cs : Array Value} {t : TypeId} {p : Nat × Nat} (b : w.heap[g]? = some (.cells cs t p)) : B ≠ g := by
 obtain ⟨-, es, clock, hb, -⟩ := h
 rintro rfl
 rw [hb] at b
 cases b
theorem mapVe.MS_move {w w1 : World} {B : Nat} {xs : List S42} (h : mapVe.MS w B xs) (hm : w1.heap[B]? = w.heap[B]?) : mapVe.MS w1 B xs := by
 obtain ⟨h0, es, clock, hb, r⟩ := h
 exact ⟨h0, es, clock, hm.trans hb, r⟩
theorem mapVe.MS_below {w w1 : World} {B : Nat} {xs : List S42} (h : mapVe.MS w B xs) (hb : Below w.heap.size w w1) : mapVe.MS w1 B xs := mapVe.MS_move h (hb.block B h.2.lt)
theorem mapVe.MS_via {w0 w w1 : World} {B : Nat} {xs : List S42} (_ : mapVe.MS w0 B xs) (h : mapVe.MS w B xs) (hb : Below w.heap.size w w1) : mapVe.MS w1 B xs := mapVe.MS_below h hb
theorem mapVe.MS_alloc {w : World} {B : Nat} {xs : List S42} (h : mapVe.MS w B xs) (o : Obj) : mapVe.MS (w.alloc o) B xs := mapVe.MS_below h (below_alloc (Below.refl _ _) _)
theorem mapVe.MS_drewN {w : World} {B : Nat} {xs : List S42} (h : mapVe.MS w B xs) (n : Nat) : mapVe.MS (w.drewN n) B xs := h
theorem mapVe.MS_drew {w : World} {B : Nat} {xs : List S42} (h : mapVe.MS w B xs) : mapVe.MS w.drew B xs := h
theorem mapVe.MS_set {w : World} {B : Nat} {xs : List S42} {g j : Nat} {v : Value} (h : mapVe.MS w B xs) (hne : B ≠ g) : mapVe.MS (w.setCell ⟨g, j, none⟩ v) B xs := mapVe.MS_move h (Below.heap_setCell w _ v B hne)
theorem mapVe.MS_over {w w1 : World} {B : Nat} {xs : List S42} (h : mapVe.MS w B xs) {v : Value} {e' : Nat} (hty : ∀ k, v.ownBlock = some k → ∃ cells, w.heap[k]? = some (.cells cells e' (0, 0))) (hg : w.grownBy w1 v.ownBlock) : mapVe.MS w1 B xs :=
 mapVe.MS_move h (hg.block B h.2.lt (fun e => by obtain ⟨cs, hc⟩ := hty B e.symm; exact mapVe.MS_ne h hc rfl))
theorem mapVe.R_map {α : Type} {d : Kd α} {e : Nat} {w w1 : World} {base : Nat} {ok : Nat → Prop} {v : Value} {l : List α} (h : d.R e w base ok v l) {B : Nat} {xs : List S42} (hM : mapVe.MS w B xs) (hg : w.grownBy w1 (some B)) : d.R e w1 base ok v l :=
 Kd.R_mono (Kd.R_move (Kd.R_bound h) (fun k hk => by
  obtain ⟨_, _, hlt, _, _, cs, hc⟩ := hk
  exact hg.block k hlt (fun e => (mapVe.MS_ne hM hc) (Option.some.inj e).symm))) (fun _ hk => hk.1)
theorem mapVe.blk_put {w w1 : World} {g : Nat} {cs : Array Value} {t : TypeId} (h : w.heap[g]? = some (.cells cs t (0, 0))) {B : Nat} {xs : List S42} (hM : mapVe.MS w B xs) (hg : w.grownBy w1 (some B)) : w1.heap[g]? = some (.cells cs t (0, 0)) :=
 (hg.block g (blk_lt h) (fun e => mapVe.MS_ne hM h (Option.some.inj e).symm)).trans h
theorem mapVe.below_put {w W w1 : World} {g : Nat} (h : Below w.heap.size w W) (hB : w.heap.size ≤ g) (hg : W.grownBy w1 (some g)) : Below w.heap.size w w1 :=
 h.trans ⟨hg.os, hg.tape, hg.output, hg.size, fun i hi => hg.block i (Nat.lt_of_lt_of_le hi h.size) (fun e => by have := Option.some.inj e; omega)⟩
section
variable {ops : Array Oper} {rest : List Oper} {o : Oper} {a : Act} {Q : Exit → Act → World → Prop} {Kc : Act → World → Prop} {W : World}
theorem mapVe.make_event (hgd : o.guard = none) {N : Tmp} (_hd : o.dst = some N) (hrun : (execOp a.eval o).run Try.prog W = .ok (.value (.map (some W.heap.size))) (W.alloc (.map #[] 0)))
  (h : ∀ g, g = W.heap.size → ∀ w1, mapVe.MS w1 g [] → Below W.heap.size W w1 → wpList Try.prog ops Q rest (a.put o.dst (.map (some g))) w1) : wpList Try.prog ops Q (o :: rest) a W :=
 Kd.event_run hgd hrun (h _ rfl _ ⟨fun _ hx => absurd hx (by simp), World.ownsMap_made W _ _ _⟩ (below_alloc (Below.refl _ _) _))
/-- An entry is set in a region of open order. -/
theorem mapVe.put_step {Kc : Act → World → Prop} (hw : Region.wanted o (yielded ops a.tmps) = true) (hd : o.dst = none) (m x v : Operand) (hop : o.op = Op.mapUpdate 53 m x v) {B : Nat} {xs : List S42} (hm : a.eval m = .map (some B)) (hM : mapVe.MS W B xs) (y : S42) (hx : a.eval x = mapVe.enc y) (hv : a.eval v = .bool true) (hy : mapVe.wf y = true) (hn : xs.length < 2932031007402)
  (h : ∀ w1, mapVe.MS w1 B (xs ++ [y]) → W.grownBy w1 (some B) → Kc a w1) : if Region.wanted o (yielded ops a.tmps) = true then Oper.wp Try.prog o a W Kc Q else Kc (a.put none undef) W := by
 rw [if_pos hw]
 obtain ⟨w', hrun, r1, r2⟩ := hM.2.update mapVe.law Try.underlying53 (R := plainElem (H := Unit) Try.prog 4) (by unfold maxLen; omega) (mapVe.hkey y hy) (plainElem_bool Try.underlying4 true)
 have hk : Kc a w' := h w' ⟨fun z hz => by
  rcases List.mem_append.1 hz with hz | hz
  ·exact hM.1 z hz
  ·rw [List.mem_singleton.1 hz]; exact hy, by
  rw [List.length_append]
  unfold mapVe.setD at r1 ⊢
  rw [List.foldl_append]
  exact r1⟩ r2
 unfold Oper.wp
 simp [execOp, hop, hm, hx, hv, hrun, Result.andThen]
 unfold Oper.upon
 rw [hd]
 exact hk
end
/-- How many keys the map has. -/
def mapVe.card (xs : List S42) : Int := (Go.Maps.size (mapVe.setD xs (.map [])) : Nat)
end Go.Proofs.Ytfmjboloeabjmaa.PA
