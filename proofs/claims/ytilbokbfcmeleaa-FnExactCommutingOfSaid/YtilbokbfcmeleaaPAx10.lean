/- Walks written by program: each Go function that the law reaches comes to the plain function beside it. -/
import Derived.Test.YtilbokbfcmeleaaPAx0
import Derived.Test.YtilbokbfcmeleaaPAx4
import Derived.Test.YtilbokbfcmeleaaPAx6
import Derived.Test.YtilbokbfcmeleaaPAx8
import Derived.Test.YtilbokbfcmeleaaPAx9
namespace Go.Proofs.Ytilbokbfcmeleaa.PA
open Go.RowKit Go.Proofs.YtilbokbfcmeleaaW.PrintWords Go.Proofs.YtilbokbfcmeleaaW.PrintLast Go.Proofs.YtilbokbfcmeleaaW.PrintMore
attribute [local go_sem] max2_int min2_int max_two min_two max_three min_three max_four min_four   -- for this text's walks alone
set_option linter.unusedVariables false
set_option linter.unusedSimpArgs false

/-! ### spec_l06Code: function 18 -/
def spec_l06Code.f (a0 : Int) (a1_0 : Int) (a1_1 : Int) (a1_2 : Int) (a2 : Bool) : Option (Int) := (spec_l04Code.f a0 a1_0 a1_1 a1_2).bind fun t331 => (if t331 = 0 then (if a2 = true then (some t331) else (some 2)) else (some t331))
set_option maxHeartbeats 8000000 in
set_option maxRecDepth 100000 in
theorem spec_l06Code.calls (a0 : Int) (a1_0 : Int) (a1_1 : Int) (a1_2 : Int) (a2 : Bool) (r : Int) (w : World) (h : spec_l06Code.f a0 a1_0 a1_1 a1_2 a2 = some r) :
  Calls Try.prog 18 #[.int .i64 a0, .agg #[.int .i64 a1_0, .int .i64 a1_1, .int .i64 a1_2], .bool a2] w fun e w' => e = .returned (.int .i64 r) ∧ Below w.heap.size w w' := by
 have hu29 := Try.underlying29
 have HB := asd (Below.refl w.heap.size w)
 have H : ((spec_l04Code.f a0 a1_0 a1_1 a1_2).bind fun t331 => (if t331 = 0 then (if a2 = true then (some t331) else (some 2)) else (some t331))) = some r := h
 clear h
 obtain ⟨t331, A4, H⟩ := ob H
 try dsimp only at H
 by_cases c5 : t331 = 0
 rw [if_pos c5] at H
 have c5b0 : (t331 == 0) = true := beq_iff_eq.mpr c5
 have c5b1 : (t331 != 0) = false := bne_eq_false_iff_eq.mpr c5
 clear c5
 by_cases c6 : a2 = true
 subst c6
 replace H := ifT H
 obtain rfl := Option.some.inj H
 rotate_left
 replace c6 := Bool.eq_false_iff.mpr c6
 subst c6
 replace H := ifF H
 obtain rfl := Option.some.inj H
 rotate_left
 rw [if_neg c5] at H
 have c5b0 : (t331 == 0) = false := beq_eq_false_iff_ne.mpr c5
 have c5b1 : (t331 != 0) = true := bne_iff_ne.mpr c5
 obtain rfl := Option.some.inj H
 rotate_left
 all_goals
  go_enter Try.func18, Try.ntmps18
  go_wp2_with (first | ((with_reducible refine gd 4 rfl ?_); refine bx #[.int .i64 a1_0, .int .i64 a1_1, .int .i64 a1_2] 29 ?_; intro gb330 hg w7 BK330 hb; have GE330 := ngw0 hg HB; replace HB := bS0 HB hb; clear hb hg; obtain ⟨hcz8_0, hcz8_1, hcz8_2, hfz8_0, hfz8_1, hfz8_2⟩ := bz3 BK330) | ((with_reducible refine gate_callee (f := 41) rfl ?_); refine gl 10 Try.func41 #[.int .i64 a0, .agg #[.int .i64 a1_0, .int .i64 a1_1, .int .i64 a1_2]] ?_; (with_reducible refine (spec_l04Code.calls _ _ _ _ _ _ A4.out).mono ?_); rintro e w9 ⟨rfl, hb⟩; refine ⟨_, rfl, ?_⟩; replace BK330 := bB BK330 hb; replace HB := bS1 HB GE330 hb; (try clear hb)))
  go_ret
  exact er (bbw1 HB GE330)
/-! ### spec_l07Code: function 31 -/
def spec_l07Code.f (k : Nat) (a0 : Int) (a1_0 : Int) (a1_1 : Int) (a1_2 : Int) (l2 : List (S48)) (a3 : Bool) : Option (Int) := if a3 = true then ((spec_IsGroup.f k a0 a1_0 a1_1 a1_2 l2).bind fun t333 => ((spec_l06Code.f a0 a1_0 a1_1 a1_2 t333).bind fun t334 => (some t334))) else ((spec_l06Code.f a0 a1_0 a1_1 a1_2 false).bind fun t335 => (some t335))
def spec_l07Code.T1 : Bool × List (List Nat × List Nat) := (true, [([], []), ([], []), ([], []), ([2], [2]), ([3], [3]), ([3], [3]), ([3], [3]), ([4, 5, 6, 3, 3], [3, 4, 5, 6]), ([3, 7], [3, 7]), ([0, 1, 8, 7], [0, 1, 8]), ([9, 9, 0, 1, 2, 3, 4, 5, 6, 7, 8, 9], [9])])
def spec_l07Code.B1 : List Nat := [0, 0, 0, 4, 12, 12, 12, 124, 252, 511, 1023]
theorem spec_l07Code.tab1 : rtab .any (opsOf Try.f31 1) = spec_l07Code.T1 := by kernel_rfl
theorem spec_l07Code.bits1 : waitsOk spec_l07Code.T1.2 spec_l07Code.B1 = true := by kernel_rfl
set_option maxHeartbeats 8000000 in
set_option maxRecDepth 100000 in
theorem spec_l07Code.calls (k : Nat) (a0 : Int) (a1_0 : Int) (a1_1 : Int) (a1_2 : Int) (A2 : Option Addr) (c2 : Nat) (l2 : List (S48)) (a3 : Bool) (r : Int) (w : World) (hr2 : Kd.C k48 w A2 l2.length l2) (hc2 : l2.length ≤ c2) (h : spec_l07Code.f k a0 a1_0 a1_1 a1_2 l2 a3 = some r) :
  Calls Try.prog 31 #[.int .i64 a0, .agg #[.int .i64 a1_0, .int .i64 a1_1, .int .i64 a1_2], .slice A2 l2.length c2, .bool a3] w fun e w' => e = .returned (.int .i64 r) ∧ Below w.heap.size w w' := by
 have hu29 := Try.underlying29
 have HR2 := Aside0.mk hr2
 have HC2 := Aside0.mk hc2
 clear hr2 hc2
 have HB := asd (Below.refl w.heap.size w)
 have H : (if a3 = true then ((spec_IsGroup.f k a0 a1_0 a1_1 a1_2 l2).bind fun t333 => ((spec_l06Code.f a0 a1_0 a1_1 a1_2 t333).bind fun t334 => (some t334))) else ((spec_l06Code.f a0 a1_0 a1_1 a1_2 false).bind fun t335 => (some t335))) = some r := h
 clear h
 by_cases c5 : a3 = true
 subst c5
 replace H := ifT H
 obtain ⟨t333, A6, H⟩ := ob H
 try dsimp only at H
 obtain ⟨t334, A7, H⟩ := ob H
 try dsimp only at H
 obtain rfl := Option.some.inj H
 rotate_left
 replace c5 := Bool.eq_false_iff.mpr c5
 subst c5
 replace H := ifF H
 obtain ⟨t335, A7, H⟩ := ob H
 try dsimp only at H
 obtain rfl := Option.some.inj H
 rotate_left
 all_goals
  go_enter Try.func31, Try.ntmps31
  try go_wp2_with (first | ((with_reducible refine gd 5 rfl ?_); refine bx #[.int .i64 a1_0, .int .i64 a1_1, .int .i64 a1_2] 29 ?_; intro gb332 hg w8 BK332 hb; have GE332 := ngw0 hg HB; replace HB := bS0 HB hb; clear hb hg))
  replace BK332 := asd (blk_drew BK332.out)
  replace HB := asd (below_drew1 HB.out)
  refine sh 11 (eb3 BK332) (fun hHeld => ?_); refine with_tabW spec_l07Code.tab1 spec_l07Code.bits1 (fun HT_ HW_ => ?_)
  generalize w8.drew = w9 at BK332 HB hHeld ⊢
  refine pu 0 (some 9) (bT 11 1) HT_ ?_
  refine pu 2 (some 11) (bs 11 5) HT_ ?_
  refine pu 3 (some 12) (bs 11 13) HT_ ?_
 focus
  refine pu 4 (some 13) (bs 11 29) HT_ ?_
  refine pu 6 (some 15) (bs 11 93) HT_ ?_
  refine ta 1 (some 10) (bs 11 95) HT_ HW_ hHeld ?_
  refine ta 5 (some 14) (bT 11 7) HT_ HW_ hHeld ?_
  refine ro 7 (some 16) (bT 11 8) HT_ (fun K hK => ?_)
  refine gs Try.func19 #[.int .i64 a0, .agg #[.int .i64 a1_0, .int .i64 a1_1, .int .i64 a1_2], .slice A2 l2.length c2] ?_
  with_reducible refine (spec_IsGroup.calls _ _ _ _ _ _ _ _ _ _ ?side1 ?side2 A6.out).mono ?_
  (case side1 => exact ks (Kd.C_below HR2.out HB.out))
  (case side2 => exact HC2.out)
  rintro e w10 ⟨rfl, hb⟩
  refine ⟨_, rfl, ?_⟩
  replace BK332 := bB BK332 hb
  replace HB := bS1 HB GE332 hb
  (try clear hb)
  (try clear hb2)
  (try clear hk)
  (try clear hi)
  refine hK.out _ _ (eb3 BK332).out (fun hHeld => ?_)
  clear hK K
  refine norm_ (a' := ?_) ?_ ?_
  rotate_left
  ·show Act.put _ (some 16) _ = _
   simp only [Act.put, sA, sB, sC, i64_w, i32_w]
   rfl
  refine pu 8 (some 17) (bT 11 9) HT_ ?_
  refine ro 9 (some 18) (bT 11 10) HT_ (fun K hK => ?_)
  refine gs Try.func18 #[.int .i64 a0, .agg #[.int .i64 a1_0, .int .i64 a1_1, .int .i64 a1_2], .bool t333] ?_
 rotate_left
 refine pf 4 (some 13) (bs 11 29) HT_ ?_
 refine pf 5 (some 14) (bs 11 61) HT_ ?_
 refine pf 6 (some 15) (bs 11 125) HT_ ?_
 refine pf 7 (some 16) (bs 11 253) HT_ ?_
 refine pu 8 (some 17) (bs 11 509) HT_ ?_
 refine ta 1 (some 10) (bT 11 9) HT_ HW_ hHeld ?_
 refine ro 9 (some 18) (bT 11 10) HT_ (fun K hK => ?_)
 refine gs Try.func18 #[.int .i64 a0, .agg #[.int .i64 a1_0, .int .i64 a1_1, .int .i64 a1_2], .bool false] ?_
 rotate_left
 all_goals
  with_reducible refine (spec_l06Code.calls _ _ _ _ _ _ _ A7.out).mono ?_
  rintro e w11 ⟨rfl, hb⟩
  refine ⟨_, rfl, ?_⟩
  replace BK332 := bB BK332 hb
  replace HB := bS1 HB GE332 hb
  (try clear hb)
  (try clear hb2)
  (try clear hk)
  (try clear hi)
  refine hK.out _ _ (eb3 BK332).out (fun hHeld => ?_)
  clear hK K
  refine norm_ (a' := ?_) ?_ ?_
  rotate_left
  ·show Act.put _ (some 18) _ = _
   simp only [Act.put, sA, sB, sC, i64_w, i32_w]
   rfl
  refine pu 10 (some 8) (bT 11 11) HT_ ?_
  refine done_ (done_of HT_.out (by kernel_rfl)) ?_
  try go_wp2
  go_ret
  exact er (bbw1 HB GE332)
/-! ### spec_l15Inside: function 85 -/
def spec_l15Inside.l0 : Nat → List (S48) → List (S48) → Int → Option (Bool)
 | 0, _, _, _ => none
 | k + 1, x0, x1, x5 => if x5 < (x1.length : Int) then (if 0 ≤ x5 then ((spec_l06Has.f k x0 ((rd_T48 x1 x5).f0.f0) ((rd_T48 x1 x5).f0.f1) ((rd_T48 x1 x5).f0.f2) ((rd_T48 x1 x5).f0.f3) ((rd_T48 x1 x5).f1.f0) ((rd_T48 x1 x5).f1.f1)).bind fun t337 => (if t337 = true then (spec_l15Inside.l0 k x0 x1 (wrap64 (x5 + 1))) else (some false))) else (none)) else (some true)
def spec_l15Inside.f (k : Nat) (l0 : List (S48)) (l1 : List (S48)) : Option (Bool) := spec_l15Inside.l0 k l0 l1 0
set_option maxHeartbeats 8000000 in
set_option maxRecDepth 100000 in
theorem spec_l15Inside.calls (k : Nat) (A0 : Option Addr) (c0 : Nat) (l0 : List (S48)) (A1 : Option Addr) (c1 : Nat) (l1 : List (S48)) (r : Bool) (w : World) (hr0 : Kd.C k48 w A0 l0.length l0) (hc0 : l0.length ≤ c0) (hr1 : Kd.C k48 w A1 l1.length l1) (hc1 : l1.length ≤ c1) (h : spec_l15Inside.f k l0 l1 = some r) :
  Calls Try.prog 85 #[.slice A0 l0.length c0, .slice A1 l1.length c1] w fun e w' => e = .returned (.bool r) ∧ Below w.heap.size w w' := by
 have hu48 := Try.underlying48
 have HR0 := Aside0.mk hr0
 have HC0 := Aside0.mk hc0
 clear hr0 hc0
 have HR1 := Aside0.mk hr1
 have HC1 := Aside0.mk hc1
 clear hr1 hc1
 have HB := asd (Below.refl w.heap.size w)
 have H : (spec_l15Inside.l0 k l0 l1 0) = some r := h
 clear h
 have H' := Aside0.mk H
 clear H
 go_enter Try.func85, Try.ntmps85
 go_wp2
 go_loopg [5] k (fun kq v5 w' => ∃ (x5_1 : Int), v5 = .int .i64 x5_1 ∧ Aside0 (spec_l15Inside.l0 kq l0 l1 x5_1 = some r) ∧ Aside0 (kq ≤ k) ∧ Aside0 (Below w.heap.size w w'))
 case atStart => exact ⟨(0), (by first | rfl | (simp; done) | (simp [*]; done)), H', ⟨Nat.le_refl _⟩, ⟨bbw0 HB⟩⟩
 case round =>
  clear H'
  try clear c1
  try clear p2
  obtain ⟨x5_1, rfl, HA, HK1, HB⟩ := hrel
  cases gk with
  | zero => exact absurd HA.out (by simp [spec_l15Inside.l0])
  | succ k1 =>
   have H := HA.out
   clear HA
   simp only [spec_l15Inside.l0] at H
   by_cases c3 : x5_1 < (l1.length : Int)
   rw [if_pos c3] at H
   have c3b0 := decide_eq_true c3
   clear c3
   by_cases c4 : 0 ≤ x5_1
   rw [if_pos c4] at H
   have c4b0 := decide_eq_true c4
   clear c4
   obtain ⟨t337, A5, H⟩ := ob H
   try dsimp only at H
   by_cases c6 : t337 = true
   subst c6
   replace H := ifT H
   have H' := Aside0.mk H
   clear H
   rotate_left
   replace c6 := Bool.eq_false_iff.mpr c6
   subst c6
   replace H := ifF H
   obtain rfl := Option.some.inj H
   rotate_left
   ·rw [if_neg c4] at H
    exact absurd H (by simp)
   rw [if_neg c3] at H
   have c3b0 := decide_eq_false c3
   clear c3
   obtain rfl := Option.some.inj H
   rotate_left
   rotate_left 2
   ·go_wp2
    go_ret
    exact er (bbw0 HB)
   all_goals
    obtain ⟨p336, q336, ad336, e336, hx336_0, hx336_1, hx336_2, hx336_3, hx336_4, hx336_5⟩ := at_T48x HR1.out HB x5_1
    cases e336
    go_wp2_with (first | ((with_reducible refine gate_callee (f := 20) rfl ?_); refine gl 17 Try.func20 #[.slice A0 l0.length c0, .agg #[.int .i64 ((rd_T48 l1 x5_1).f0.f0), .int .i64 ((rd_T48 l1 x5_1).f0.f1), .int .i64 ((rd_T48 l1 x5_1).f0.f2), .int .i64 ((rd_T48 l1 x5_1).f0.f3), .int .i64 ((rd_T48 l1 x5_1).f1.f0), .int .i64 ((rd_T48 l1 x5_1).f1.f1)]] ?_; (with_reducible refine (spec_l06Has.calls _ _ _ _ _ _ _ _ _ _ _ _ ?side1 ?side2 A5.out).mono ?_); (case side1 => exact ks (Kd.C_below HR0.out HB.out)); (case side2 => exact HC0.out); rintro e w7 ⟨rfl, hb⟩; refine ⟨_, rfl, ?_⟩; replace HB := bS0 HB hb; (try clear hb)))
   ·go_roundg k1
    case measure => have := HK1.out; omega
    case rel => exact ⟨(wrap64 (x5_1 + 1)), (by first | rfl | (simp; done) | (simp [*]; done)), H', ⟨by have := HK1.out; omega⟩, ⟨bbw0 HB⟩⟩
   ·go_ret
    exact er (bbw0 HB)
/-! ### spec_l15Code: function 55 -/
def spec_l15Code.f (k : Nat) (a0 : Int) (a1_0 : Int) (a1_1 : Int) (a1_2 : Int) (l2 : List (S48)) (l3 : List (S48)) : Option (Int) := (spec_IsGroup.f k a0 a1_0 a1_1 a1_2 l3).bind fun t339 => ((spec_l07Code.f k a0 a1_0 a1_1 a1_2 l2 t339).bind fun t340 => (if t340 = 0 then (if (l2.length : Int) > 48 then (some 3) else ((spec_l15Inside.f k l2 l3).bind fun t341 => (if t341 = true then (some 0) else (some 5)))) else (some t340)))
def spec_l15Code.T1 : Bool × List (List Nat × List Nat) := (true, [([], []), ([], []), ([], []), ([], []), ([], []), ([], []), ([3, 4, 5], [3, 4, 5]), ([0, 1, 2, 6, 6], [0, 1, 2, 6]), ([7, 7, 0, 1, 2, 3, 4, 5, 6, 7], [7])])
def spec_l15Code.B1 : List Nat := [0, 0, 0, 0, 0, 0, 56, 127, 255]
theorem spec_l15Code.tab1 : rtab .any (opsOf Try.f55 1) = spec_l15Code.T1 := by kernel_rfl
theorem spec_l15Code.bits1 : waitsOk spec_l15Code.T1.2 spec_l15Code.B1 = true := by kernel_rfl
set_option maxHeartbeats 8000000 in
set_option maxRecDepth 100000 in
theorem spec_l15Code.calls (k : Nat) (a0 : Int) (a1_0 : Int) (a1_1 : Int) (a1_2 : Int) (A2 : Option Addr) (c2 : Nat) (l2 : List (S48)) (A3 : Option Addr) (c3 : Nat) (l3 : List (S48)) (r : Int) (w : World) (hr2 : Kd.C k48 w A2 l2.length l2) (hc2 : l2.length ≤ c2) (hr3 : Kd.C k48 w A3 l3.length l3) (hc3 : l3.length ≤ c3) (h : spec_l15Code.f k a0 a1_0 a1_1 a1_2 l2 l3 = some r) :
  Calls Try.prog 55 #[.int .i64 a0, .agg #[.int .i64 a1_0, .int .i64 a1_1, .int .i64 a1_2], .slice A2 l2.length c2, .slice A3 l3.length c3] w fun e w' => e = .returned (.int .i64 r) ∧ Below w.heap.size w w' := by
 have hu29 := Try.underlying29
 have HR2 := Aside0.mk hr2
 have HC2 := Aside0.mk hc2
 clear hr2 hc2
 have HR3 := Aside0.mk hr3
 have HC3 := Aside0.mk hc3
 clear hr3 hc3
 have HB := asd (Below.refl w.heap.size w)
 have H : ((spec_IsGroup.f k a0 a1_0 a1_1 a1_2 l3).bind fun t339 => ((spec_l07Code.f k a0 a1_0 a1_1 a1_2 l2 t339).bind fun t340 => (if t340 = 0 then (if (l2.length : Int) > 48 then (some 3) else ((spec_l15Inside.f k l2 l3).bind fun t341 => (if t341 = true then (some 0) else (some 5)))) else (some t340)))) = some r := h
 clear h
 obtain ⟨t339, A5, H⟩ := ob H
 try dsimp only at H
 obtain ⟨t340, A6, H⟩ := ob H
 try dsimp only at H
 by_cases c7 : t340 = 0
 rw [if_pos c7] at H
 have c7b0 : (t340 == 0) = true := beq_iff_eq.mpr c7
 have c7b1 : (t340 != 0) = false := bne_eq_false_iff_eq.mpr c7
 clear c7
 by_cases c8 : (l2.length : Int) > 48
 rw [if_pos c8] at H
 have c8b0 : decide (48 < (l2.length : Int)) = true := decide_eq_true c8
 have c8b1 : decide (48 < l2.length) = true := decide_eq_true (by omega)
 clear c8
 obtain rfl := Option.some.inj H
 rotate_left
 rw [if_neg c8] at H
 have c8b0 : decide (48 < (l2.length : Int)) = false := decide_eq_false c8
 have c8b1 : decide (48 < l2.length) = false := decide_eq_false (by omega)
 clear c8
 obtain ⟨t341, A13, H⟩ := ob H
 try dsimp only at H
 by_cases c14 : t341 = true
 subst c14
 replace H := ifT H
 obtain rfl := Option.some.inj H
 rotate_left
 replace c14 := Bool.eq_false_iff.mpr c14
 subst c14
 replace H := ifF H
 obtain rfl := Option.some.inj H
 rotate_left
 rw [if_neg c7] at H
 have c7b0 : (t340 == 0) = false := beq_eq_false_iff_ne.mpr c7
 have c7b1 : (t340 != 0) = true := bne_iff_ne.mpr c7
 obtain rfl := Option.some.inj H
 rotate_left
 all_goals
  go_enter Try.func55, Try.ntmps55
  try go_wp2_with (first | ((with_reducible refine gd 5 rfl ?_); refine bx #[.int .i64 a1_0, .int .i64 a1_1, .int .i64 a1_2] 29 ?_; intro gb338 hg w9 BK338 hb; have GE338 := ngw0 hg HB; replace HB := bS0 HB hb; clear hb hg))
  replace BK338 := asd (blk_drew BK338.out)
  replace HB := asd (below_drew1 HB.out)
  refine sh 9 (eb3 BK338) (fun hHeld => ?_); refine with_tabW spec_l15Code.tab1 spec_l15Code.bits1 (fun HT_ HW_ => ?_)
  generalize w9.drew = w10 at BK338 HB hHeld ⊢
  refine pu 0 (some 10) (bT 9 1) HT_ ?_
  refine pu 2 (some 12) (bs 9 5) HT_ ?_
  refine pu 3 (some 13) (bs 9 13) HT_ ?_
  refine pu 5 (some 15) (bs 9 45) HT_ ?_
  refine ta 1 (some 11) (bs 9 47) HT_ HW_ hHeld ?_
  refine ta 4 (some 14) (bT 9 6) HT_ HW_ hHeld ?_
  refine ro 6 (some 16) (bT 9 7) HT_ (fun K hK => ?_)
  refine gs Try.func19 #[.int .i64 a0, .agg #[.int .i64 a1_0, .int .i64 a1_1, .int .i64 a1_2], .slice A3 l3.length c3] ?_
  with_reducible refine (spec_IsGroup.calls _ _ _ _ _ _ _ _ _ _ ?side1 ?side2 A5.out).mono ?_
  (case side1 => exact ks (Kd.C_below HR3.out HB.out))
  (case side2 => exact HC3.out)
  rintro e w11 ⟨rfl, hb⟩
  refine ⟨_, rfl, ?_⟩
  replace BK338 := bB BK338 hb
  replace HB := bS1 HB GE338 hb
  (try clear hb)
  (try clear hb2)
  (try clear hk)
  (try clear hi)
  refine hK.out _ _ (eb3 BK338).out (fun hHeld => ?_)
  clear hK K
  refine norm_ (a' := ?_) ?_ ?_
  rotate_left
  ·show Act.put _ (some 16) _ = _
   simp only [Act.put, sA, sB, sC, i64_w, i32_w]
   rfl
  refine ro 7 (some 17) (bT 9 8) HT_ (fun K hK => ?_)
  refine gs Try.func31 #[.int .i64 a0, .agg #[.int .i64 a1_0, .int .i64 a1_1, .int .i64 a1_2], .slice A2 l2.length c2, .bool t339] ?_
  with_reducible refine (spec_l07Code.calls _ _ _ _ _ _ _ _ _ _ _ ?side1 ?side2 A6.out).mono ?_
  (case side1 => exact ks (Kd.C_below HR2.out HB.out))
  (case side2 => exact HC2.out)
  rintro e w12 ⟨rfl, hb⟩
  refine ⟨_, rfl, ?_⟩
  replace BK338 := bB BK338 hb
  replace HB := bS1 HB GE338 hb
  (try clear hb)
  (try clear hb2)
  (try clear hk)
  (try clear hi)
  refine hK.out _ _ (eb3 BK338).out (fun hHeld => ?_)
  clear hK K
  refine norm_ (a' := ?_) ?_ ?_
  rotate_left
  ·show Act.put _ (some 17) _ = _
   simp only [Act.put, sA, sB, sC, i64_w, i32_w]
   rfl
  refine pu 8 (some 9) (bT 9 9) HT_ ?_
  refine done_ (done_of HT_.out (by kernel_rfl)) ?_
 ·try go_wp2
  go_ret
  exact er (bbw1 HB GE338)
 rotate_left 2
 ·try go_wp2
  go_ret
  exact er (bbw1 HB GE338)
 all_goals
  try go_wp2_with (first | ((with_reducible refine gate_callee (f := 85) rfl ?_); refine gl 29 Try.func85 #[.slice A2 l2.length c2, .slice A3 l3.length c3] ?_; (with_reducible refine (spec_l15Inside.calls _ _ _ _ _ _ _ _ _ ?side1 ?side2 ?side3 ?side4 A13.out).mono ?_); (case side1 => exact ks (Kd.C_below HR2.out HB.out)); (case side2 => exact HC2.out); (case side3 => exact ks (Kd.C_below HR3.out HB.out)); (case side4 => exact HC3.out); rintro e w19 ⟨rfl, hb⟩; refine ⟨_, rfl, ?_⟩; replace BK338 := bB BK338 hb; replace HB := bS1 HB GE338 hb; (try clear hb)))
  go_ret
  exact er (bbw1 HB GE338)
/-! ### spec_l15One: function 25 -/
def spec_l15One.f (k : Nat) (a0 : Int) (a1_0 : Int) (a1_1 : Int) (a1_2 : Int) (l2 : List (S48)) : Option (Int) := (spec_l06Unit.f).bind fun bt343 => ((spec_l15Code.f k a0 a1_0 a1_1 a1_2 l2 (([(⟨(⟨bt343.1, bt343.2.1, bt343.2.2.1, bt343.2.2.2.1⟩ : S44), (⟨bt343.2.2.2.2.1, bt343.2.2.2.2.2⟩ : S46)⟩ : S48)] : List (S48)))).bind fun t352 => (some t352))
set_option maxHeartbeats 8000000 in
set_option maxRecDepth 100000 in
theorem spec_l15One.calls (k : Nat) (a0 : Int) (a1_0 : Int) (a1_1 : Int) (a1_2 : Int) (A2 : Option Addr) (c2 : Nat) (l2 : List (S48)) (r : Int) (w : World) (hr2 : Kd.C k48 w A2 l2.length l2) (hc2 : l2.length ≤ c2) (h : spec_l15One.f k a0 a1_0 a1_1 a1_2 l2 = some r) :
  Calls Try.prog 25 #[.int .i64 a0, .agg #[.int .i64 a1_0, .int .i64 a1_1, .int .i64 a1_2], .slice A2 l2.length c2] w fun e w' => e = .returned (.int .i64 r) ∧ Below w.heap.size w w' := by
 have hu29 := Try.underlying29
 have HR2 := Aside0.mk hr2
 have HC2 := Aside0.mk hc2
 clear hr2 hc2
 have HB := asd (Below.refl w.heap.size w)
 have H : ((spec_l06Unit.f).bind fun bt343 => ((spec_l15Code.f k a0 a1_0 a1_1 a1_2 l2 (([(⟨(⟨bt343.1, bt343.2.1, bt343.2.2.1, bt343.2.2.2.1⟩ : S44), (⟨bt343.2.2.2.2.1, bt343.2.2.2.2.2⟩ : S46)⟩ : S48)] : List (S48)))).bind fun t352 => (some t352))) = some r := h
 clear h
 obtain ⟨⟨t343, t344, t345, t346, t347, t348⟩, A4, H⟩ := ob H
 try dsimp only at H
 obtain ⟨y349, hy349⟩ : ∃ y_ : List (S48), y_ = (([(⟨(⟨t343, t344, t345, t346⟩ : S44), (⟨t347, t348⟩ : S46)⟩ : S48)] : List (S48))) := ⟨_, rfl⟩
 replace H : ((spec_l15Code.f k a0 a1_0 a1_1 a1_2 l2 y349).bind fun t352 => (some t352)) = some r := by first | (rw [hy349]; with_reducible exact H) | (have H2_ := (Option.bind_some _ _).symm.trans H; rw [hy349]; with_reducible exact H2_) | (have H2_ := (Option.bind_some _ _).symm.trans H; with_reducible exact H2_) | with_reducible exact H | (rw [hy349]; exact H) | exact H
 have Ny349 := Aside0.mk hy349
 clear hy349
 obtain ⟨t352, A5, H⟩ := ob H
 try dsimp only at H
 obtain rfl := Option.some.inj H
 go_enter Try.func25, Try.ntmps25
 try go_wp2_with (first | ((with_reducible refine gd 4 rfl ?_); refine bx #[.int .i64 a1_0, .int .i64 a1_1, .int .i64 a1_2] 29 ?_; intro gb342 hg w6 BK342 hb; have GE342 := ngw0 hg HB; replace HB := bS0 HB hb; clear hb hg))
 replace BK342 := asd (blk_drew BK342.out)
 replace HB := asd (below_drew1 HB.out)
 refine sh 7 (eb3 BK342) (fun hHeld => ?_)
 generalize w6.drew = w7 at BK342 HB hHeld ⊢
 refine pure_ (i := 0) (N := some 7) (v := ?_) (a' := ?_) (bT 7 1) rfl rfl (by kernel_rfl) (fun _ _ _ h => h) (Or.inl ⟨by rfl, ?_⟩) ?_ ?_
 rotate_left
 ·intro w'
  go_simp
  with_reducible rfl
 rotate_left
 ·simp only [Act.put, sA, sB, sC, i64_w, i32_w]
  rfl
 refine pure_ (i := 2) (N := some 9) (v := ?_) (a' := ?_) (bs 7 5) rfl rfl (by kernel_rfl) (fun _ _ _ h => h) (Or.inl ⟨by rfl, ?_⟩) ?_ ?_
 rotate_left
 ·intro w'
  go_simp
  with_reducible rfl
 rotate_left
 ·simp only [Act.put, sA, sB, sC, i64_w, i32_w]
  rfl
 refine take_ (i := 1) (N := some 8) (v := ?_) (a' := ?_) (bT 7 3) rfl rfl (by kernel_rfl) (fun _ _ _ h => h) (Or.inl ⟨by rfl, ?_⟩) hHeld ?_ ?_
 rotate_left
 ·rintro w' ⟨s0, s1, s2⟩
  go_simp
  with_reducible rfl
 rotate_left
 ·simp only [Act.put, sA, sB, sC, i64_w, i32_w]
  rfl
 refine one_ (i := 3) (N := some 10) (bT 7 4) rfl rfl (by kernel_rfl) (by decide) (fun K hK => ?_)
 refine gs Try.func45 #[] ?_
 with_reducible refine (spec_l06Unit.calls _ _ _ _ _ _ _ A4.out).mono ?_
 rintro e w8 ⟨rfl, hb⟩
 refine ⟨_, rfl, ?_⟩
 replace BK342 := bB BK342 hb
 replace HB := bS1 HB GE342 hb
 (try clear hb)
 (try clear hb2)
 (try clear hk)
 (try clear hi)
 refine hK.out _ _ (eb3 BK342).out (fun hHeld => ?_)
 clear hK K
 refine norm_ (a' := ?_) ?_ ?_
 rotate_left
 ·show Act.put _ (some 10) _ = _
  simp only [Act.put, sA, sB, sC, i64_w, i32_w]
  rfl
 refine one_ (i := 4) (N := some 11) (bT 7 5) rfl rfl (by kernel_rfl) (by decide) (fun K hK => ?_)
 refine Kd.R_lit_step k48 _ 48 ?hg (N := 11) ?hd (xs := ([(⟨(⟨t343, t344, t345, t346⟩ : S44), (⟨t347, t348⟩ : S46)⟩ : S48)] : List (S48))) (inner := [.int .i64 t343, .int .i64 t344, .int .i64 t345, .int .i64 t346, .int .i64 t347, .int .i64 t348]) (ok := fun _ => True) (okp := fun _ => True) ?hr ?hp (fun _ hk => hk) trivial (Below.refl _ _) (Nat.le_refl _) (by simp) ?_; (case hd => rfl); (case hg => rfl); (case hr => first | (go_simp; done) | (go_simp; rfl)); (case hp => exact (Reps.c6 (show Kd.M k48 _ _ _ (⟨(⟨t343, t344, t345, t346⟩ : S44), (⟨t347, t348⟩ : S46)⟩ : S48) [.int .i64 t343, .int .i64 t344, .int .i64 t345, .int .i64 t346, .int .i64 t347, .int .i64 t348] from (k48_mkM _ _ _ (⟨(⟨t343, t344, t345, t346⟩ : S44), (⟨t347, t348⟩ : S46)⟩ : S48) )) (Reps.none _ _)))
 intro v350 w9 ho10 hb hg_ hnew_
 clear hg_ hnew_
 (first | rw [← Ny349.out] at ho10 | (simp only [Int.reduceToNat] at ho10; rw [← Ny349.out] at ho10))
 have HO351 := asd (Kd.R_lower ho10 (bsz1 HB GE342))
 replace BK342 := bB BK342 hb
 replace HB := bS1 HB GE342 hb
 clear hb ho10
 obtain ⟨Ao11, co11, eo11⟩ := Kd.R_slice HO351.out
 (first | subst eo11 | (injection eo11 with f1_ f2_ f3_; have f4_ := f1_.symm; have f5_ := f3_.symm; clear f1_ f2_ f3_; subst f4_; subst f5_))
 refine hK.out _ _ (eb3 BK342).out (fun hHeld => ?_)
 clear hK K
 refine norm_ (a' := ?_) ?_ ?_
 rotate_left
 ·show Act.put _ (some 11) _ = _
  simp only [Act.put, sA, sB, sC, i64_w, i32_w]
  rfl
 refine one_ (i := 5) (N := some 12) (bT 7 6) rfl rfl (by kernel_rfl) (by decide) (fun K hK => ?_)
 refine gs Try.func55 #[.int .i64 a0, .agg #[.int .i64 a1_0, .int .i64 a1_1, .int .i64 a1_2], .slice A2 l2.length c2, .slice Ao11 y349.length co11] ?_
 with_reducible refine (spec_l15Code.calls _ _ _ _ _ _ _ _ _ _ _ _ _ ?side1 ?side2 ?side3 ?side4 A5.out).mono ?_
 (case side1 => exact ks (Kd.C_below HR2.out HB.out))
 (case side2 => exact HC2.out)
 (case side3 => exact ks (Kd.R_reads' HO351.out).2.2)
 (case side4 => exact (Kd.R_reads' HO351.out).2.1)
 rintro e w12 ⟨rfl, hb⟩
 refine ⟨_, rfl, ?_⟩
 replace HO351 := asd (Kd.R_below (kr HO351) hb)
 replace BK342 := bB BK342 hb
 replace HB := bS1 HB GE342 hb
 (try clear hb)
 (try clear hb2)
 (try clear hk)
 (try clear hi)
 refine hK.out _ _ (eb3 BK342).out (fun hHeld => ?_)
 clear hK K
 refine norm_ (a' := ?_) ?_ ?_
 rotate_left
 ·show Act.put _ (some 12) _ = _
  simp only [Act.put, sA, sB, sC, i64_w, i32_w]
  rfl
 refine pure_ (i := 6) (N := some 6) (v := ?_) (a' := ?_) (bT 7 7) rfl rfl (by kernel_rfl) (fun _ _ _ h => h) (Or.inl ⟨by rfl, ?_⟩) ?_ ?_
 rotate_left
 ·intro w'
  go_simp
  with_reducible rfl
 rotate_left
 ·simp only [Act.put, sA, sB, sC, i64_w, i32_w]
  rfl
 refine done_ (by kernel_rfl) ?_
 try go_wp2
 go_ret
 exact er (bbw1 HB GE342)
/-! ### spec_l15Product: function 26 -/
def spec_l15Product.f (a0_0 : Int) (a0_1 : Int) (a0_2 : Int) (a1_0 : Int) (a1_1 : Int) (a1_2 : Int) (a1_3 : Int) (a1_4 : Int) (a1_5 : Int) (a2_0 : Int) (a2_1 : Int) (a2_2 : Int) (a2_3 : Int) (a2_4 : Int) (a2_5 : Int) : Option (Int × Int × Int × Int × Int × Int) := (spec_l05Compose.f a1_0 a1_1 a1_2 a1_3 a1_4 a1_5 a2_0 a2_1 a2_2 a2_3 a2_4 a2_5).bind fun bt357 => ((spec_l06Reduce.f a0_0 a0_1 a0_2 bt357.1 bt357.2.1 bt357.2.2.1 bt357.2.2.2.1 bt357.2.2.2.2.1 bt357.2.2.2.2.2).bind fun bt363 => (some (bt363.1, bt363.2.1, bt363.2.2.1, bt363.2.2.2.1, bt363.2.2.2.2.1, bt363.2.2.2.2.2)))
set_option maxHeartbeats 8000000 in
set_option maxRecDepth 100000 in
theorem spec_l15Product.calls (a0_0 : Int) (a0_1 : Int) (a0_2 : Int) (a1_0 : Int) (a1_1 : Int) (a1_2 : Int) (a1_3 : Int) (a1_4 : Int) (a1_5 : Int) (a2_0 : Int) (a2_1 : Int) (a2_2 : Int) (a2_3 : Int) (a2_4 : Int) (a2_5 : Int) (r1 : Int) (r2 : Int) (r3 : Int) (r4 : Int) (r5 : Int) (r6 : Int) (w : World) (h : spec_l15Product.f a0_0 a0_1 a0_2 a1_0 a1_1 a1_2 a1_3 a1_4 a1_5 a2_0 a2_1 a2_2 a2_3 a2_4 a2_5 = some (r1, r2, r3, r4, r5, r6)) :
  Calls Try.prog 26 #[.agg #[.int .i64 a0_0, .int .i64 a0_1, .int .i64 a0_2], .agg #[.int .i64 a1_0, .int .i64 a1_1, .int .i64 a1_2, .int .i64 a1_3, .int .i64 a1_4, .int .i64 a1_5], .agg #[.int .i64 a2_0, .int .i64 a2_1, .int .i64 a2_2, .int .i64 a2_3, .int .i64 a2_4, .int .i64 a2_5]] w fun e w' => e = .returned (.agg #[.int .i64 r1, .int .i64 r2, .int .i64 r3, .int .i64 r4, .int .i64 r5, .int .i64 r6]) ∧ Below w.heap.size w w' := by
 have hu29 := Try.underlying29
 have hu48 := Try.underlying48
 have HB := asd (Below.refl w.heap.size w)
 have H : ((spec_l05Compose.f a1_0 a1_1 a1_2 a1_3 a1_4 a1_5 a2_0 a2_1 a2_2 a2_3 a2_4 a2_5).bind fun bt357 => ((spec_l06Reduce.f a0_0 a0_1 a0_2 bt357.1 bt357.2.1 bt357.2.2.1 bt357.2.2.2.1 bt357.2.2.2.2.1 bt357.2.2.2.2.2).bind fun bt363 => (some (bt363.1, bt363.2.1, bt363.2.2.1, bt363.2.2.2.1, bt363.2.2.2.2.1, bt363.2.2.2.2.2)))) = some (r1, r2, r3, r4, r5, r6) := h
 clear h
 obtain ⟨⟨t357, t358, t359, t360, t361, t362⟩, A4, H⟩ := ob H
 try dsimp only at H
 obtain ⟨⟨t363, t364, t365, t366, t367, t368⟩, A5, H⟩ := ob H
 try dsimp only at H
 simp only [Option.some.injEq, Prod.mk.injEq] at H
 obtain ⟨rfl, rfl, rfl, rfl, rfl, rfl⟩ := H
 go_enter Try.func26, Try.ntmps26
 try go_wp2_with (first | ((with_reducible refine gd 3 rfl ?_); refine bx #[.int .i64 a0_0, .int .i64 a0_1, .int .i64 a0_2] 29 ?_; intro gb353 hg w6 BK353 hb; have GE353 := ngw0 hg HB; replace HB := bS0 HB hb; clear hb hg) | ((with_reducible refine gd 4 rfl ?_); refine bx #[.int .i64 a1_0, .int .i64 a1_1, .int .i64 a1_2, .int .i64 a1_3, .int .i64 a1_4, .int .i64 a1_5] 48 ?_; intro gb354 hg w7 BK354 hb; have GE354 := ngw1 hg HB GE353; replace HB := bS1 HB GE353 hb; have NB353_354 := nlt hg BK353; have NB354_353 := nsy (nlt hg BK353); replace BK353 := bB BK353 hb; clear hb hg) | ((with_reducible refine gd 5 rfl ?_); refine bx #[.int .i64 a2_0, .int .i64 a2_1, .int .i64 a2_2, .int .i64 a2_3, .int .i64 a2_4, .int .i64 a2_5] 48 ?_; intro gb355 hg w8 BK355 hb; have GE355 := ngw2 hg HB GE353 GE354; replace HB := bS2 HB GE353 GE354 hb; have NB353_355 := nlt hg BK353; have NB355_353 := nsy (nlt hg BK353); replace BK353 := bB BK353 hb; have NB354_355 := nlt hg BK354; have NB355_354 := nsy (nlt hg BK354); replace BK354 := bB BK354 hb; clear hb hg) | ((with_reducible refine gd 6 rfl ?_); refine bx #[.int .i64 0, .int .i64 0, .int .i64 0, .int .i64 0, .int .i64 0, .int .i64 0] 48 ?_; intro gb356 hg w9 BK356 hb; have GE356 := ngw3 hg HB GE353 GE354 GE355; replace HB := bS3 HB GE353 GE354 GE355 hb; have NB353_356 := nlt hg BK353; have NB356_353 := nsy (nlt hg BK353); replace BK353 := bB BK353 hb; have NB354_356 := nlt hg BK354; have NB356_354 := nsy (nlt hg BK354); replace BK354 := bB BK354 hb; have NB355_356 := nlt hg BK355; have NB356_355 := nsy (nlt hg BK355); replace BK355 := bB BK355 hb; clear hb hg))
 replace BK353 := asd (blk_drew BK353.out)
 replace BK354 := asd (blk_drew BK354.out)
 replace BK355 := asd (blk_drew BK355.out)
 replace BK356 := asd (blk_drew BK356.out)
 replace HB := asd (below_drew1 HB.out)
 refine sh 6 (cb3 BK353 (cb6 BK354 (eb6 BK355))) (fun hHeld => ?_)
 generalize w9.drew = w10 at BK353 BK354 BK355 BK356 HB hHeld ⊢
 refine take_ (i := 0) (N := some 7) (v := ?_) (a' := ?_) (bT 6 1) rfl rfl (by kernel_rfl) (fun _ _ _ h => h) (Or.inl ⟨by rfl, ?_⟩) hHeld ?_ ?_
 rotate_left
 ·rintro w' ⟨s0, s1, s2, s3, s4, s5, s6, s7, s8, s9, s10, s11, s12, s13, s14⟩
  go_simp
  with_reducible rfl
 rotate_left
 ·simp only [Act.put, sA, sB, sC, i64_w, i32_w]
  rfl
 refine take_ (i := 1) (N := some 8) (v := ?_) (a' := ?_) (bT 6 2) rfl rfl (by kernel_rfl) (fun _ _ _ h => h) (Or.inl ⟨by rfl, ?_⟩) hHeld ?_ ?_
 rotate_left
 ·rintro w' ⟨s0, s1, s2, s3, s4, s5, s6, s7, s8, s9, s10, s11, s12, s13, s14⟩
  go_simp
  with_reducible rfl
 rotate_left
 ·simp only [Act.put, sA, sB, sC, i64_w, i32_w]
  rfl
 refine take_ (i := 2) (N := some 9) (v := ?_) (a' := ?_) (bT 6 3) rfl rfl (by kernel_rfl) (fun _ _ _ h => h) (Or.inl ⟨by rfl, ?_⟩) hHeld ?_ ?_
 rotate_left
 ·rintro w' ⟨s0, s1, s2, s3, s4, s5, s6, s7, s8, s9, s10, s11, s12, s13, s14⟩
  go_simp
  with_reducible rfl
 rotate_left
 ·simp only [Act.put, sA, sB, sC, i64_w, i32_w]
  rfl
 refine one_ (i := 3) (N := some 10) (bT 6 4) rfl rfl (by kernel_rfl) (by decide) (fun K hK => ?_)
 refine gs Try.func46 #[.agg #[.int .i64 a1_0, .int .i64 a1_1, .int .i64 a1_2, .int .i64 a1_3, .int .i64 a1_4, .int .i64 a1_5], .agg #[.int .i64 a2_0, .int .i64 a2_1, .int .i64 a2_2, .int .i64 a2_3, .int .i64 a2_4, .int .i64 a2_5]] ?_
 with_reducible refine (spec_l05Compose.calls _ _ _ _ _ _ _ _ _ _ _ _ _ _ _ _ _ _ _ A4.out).mono ?_
 rintro e w11 ⟨rfl, hb⟩
 refine ⟨_, rfl, ?_⟩
 replace BK353 := bB BK353 hb
 replace BK354 := bB BK354 hb
 replace BK355 := bB BK355 hb
 replace BK356 := bB BK356 hb
 replace HB := bS4 HB GE353 GE354 GE355 GE356 hb
 (try clear hb)
 (try clear hb2)
 (try clear hk)
 (try clear hi)
 refine hK.out _ _ (cb3 BK353 (cb6 BK354 (eb6 BK355))).out (fun hHeld => ?_)
 clear hK K
 refine norm_ (a' := ?_) ?_ ?_
 rotate_left
 ·show Act.put _ (some 10) _ = _
  simp only [Act.put, sA, sB, sC, i64_w, i32_w]
  rfl
 refine one_ (i := 4) (N := some 11) (bT 6 5) rfl rfl (by kernel_rfl) (by decide) (fun K hK => ?_)
 refine gs Try.func43 #[.agg #[.int .i64 a0_0, .int .i64 a0_1, .int .i64 a0_2], .agg #[.int .i64 t357, .int .i64 t358, .int .i64 t359, .int .i64 t360, .int .i64 t361, .int .i64 t362]] ?_
 with_reducible refine (spec_l06Reduce.calls _ _ _ _ _ _ _ _ _ _ _ _ _ _ _ _ A5.out).mono ?_
 rintro e w12 ⟨rfl, hb⟩
 refine ⟨_, rfl, ?_⟩
 replace BK353 := bB BK353 hb
 replace BK354 := bB BK354 hb
 replace BK355 := bB BK355 hb
 replace BK356 := bB BK356 hb
 replace HB := bS4 HB GE353 GE354 GE355 GE356 hb
 (try clear hb)
 (try clear hb2)
 (try clear hk)
 (try clear hi)
 refine hK.out _ _ (cb3 BK353 (cb6 BK354 (eb6 BK355))).out (fun hHeld => ?_)
 clear hK K
 refine norm_ (a' := ?_) ?_ ?_
 rotate_left
 ·show Act.put _ (some 11) _ = _
  simp only [Act.put, sA, sB, sC, i64_w, i32_w]
  rfl
 refine one_ (i := 5) (N := none) (bT 6 6) rfl rfl (by kernel_rfl) (by decide) (fun K hK => ?_)
 have hs13 : w12.cell? ⟨gb356, 0, none⟩ = some (.int .i64 0) := bcl BK356 0
 have hfs13 := blk_frozen BK356.out 0
 have hns13_0 := NB353_356.out
 have hns13_1 := NB354_356.out
 have hns13_2 := NB355_356.out
 have hms13_0 := NB356_353.out
 have hms13_1 := NB356_354.out
 have hms13_2 := NB356_355.out
 have hs14 : w12.cell? ⟨gb356, 1, none⟩ = some (.int .i64 0) := bcl BK356 1
 have hfs14 := blk_frozen BK356.out 1
 have hns14_0 := NB353_356.out
 have hns14_1 := NB354_356.out
 have hns14_2 := NB355_356.out
 have hms14_0 := NB356_353.out
 have hms14_1 := NB356_354.out
 have hms14_2 := NB356_355.out
 have hs15 : w12.cell? ⟨gb356, 2, none⟩ = some (.int .i64 0) := bcl BK356 2
 have hfs15 := blk_frozen BK356.out 2
 have hns15_0 := NB353_356.out
 have hns15_1 := NB354_356.out
 have hns15_2 := NB355_356.out
 have hms15_0 := NB356_353.out
 have hms15_1 := NB356_354.out
 have hms15_2 := NB356_355.out
 have hs16 : w12.cell? ⟨gb356, 3, none⟩ = some (.int .i64 0) := bcl BK356 3
 have hfs16 := blk_frozen BK356.out 3
 have hns16_0 := NB353_356.out
 have hns16_1 := NB354_356.out
 have hns16_2 := NB355_356.out
 have hms16_0 := NB356_353.out
 have hms16_1 := NB356_354.out
 have hms16_2 := NB356_355.out
 have hs17 : w12.cell? ⟨gb356, 4, none⟩ = some (.int .i64 0) := bcl BK356 4
 have hfs17 := blk_frozen BK356.out 4
 have hns17_0 := NB353_356.out
 have hns17_1 := NB354_356.out
 have hns17_2 := NB355_356.out
 have hms17_0 := NB356_353.out
 have hms17_1 := NB356_354.out
 have hms17_2 := NB356_355.out
 have hs18 : w12.cell? ⟨gb356, 5, none⟩ = some (.int .i64 0) := bcl BK356 5
 have hfs18 := blk_frozen BK356.out 5
 have hns18_0 := NB353_356.out
 have hns18_1 := NB354_356.out
 have hns18_2 := NB355_356.out
 have hms18_0 := NB356_353.out
 have hms18_1 := NB356_354.out
 have hms18_2 := NB356_355.out
 refine skip_ (w1 := ?_) (by rfl) rfl ?_ ?_
 rotate_left
 ·go_simp
  rfl
 refine hK.out _ _ ⟨(cf6 NB353_356 (hHeld.1)), (cf6 NB353_356 (hHeld.2.1)), (cf6 NB353_356 (hHeld.2.2.1)), (cf6 NB354_356 (hHeld.2.2.2.1)), (cf6 NB354_356 (hHeld.2.2.2.2.1)), (cf6 NB354_356 (hHeld.2.2.2.2.2.1)), (cf6 NB354_356 (hHeld.2.2.2.2.2.2.1)), (cf6 NB354_356 (hHeld.2.2.2.2.2.2.2.1)), (cf6 NB354_356 (hHeld.2.2.2.2.2.2.2.2.1)), (cf6 NB355_356 (hHeld.2.2.2.2.2.2.2.2.2.1)), (cf6 NB355_356 (hHeld.2.2.2.2.2.2.2.2.2.2.1)), (cf6 NB355_356 (hHeld.2.2.2.2.2.2.2.2.2.2.2.1)), (cf6 NB355_356 (hHeld.2.2.2.2.2.2.2.2.2.2.2.2.1)), (cf6 NB355_356 (hHeld.2.2.2.2.2.2.2.2.2.2.2.2.2.1)), (cf6 NB355_356 (hHeld.2.2.2.2.2.2.2.2.2.2.2.2.2.2))⟩ (fun hHeld => ?_)
 clear hK K
 refine done_ (by kernel_rfl) ?_
 try go_wp2
 refine bodyPost_ret (results_cell_row rfl _ _ gb356 48 #[.int .i64 t363, .int .i64 t364, .int .i64 t365, .int .i64 t366, .int .i64 t367, .int .i64 t368] (0, 0) _ rfl (bq0 BK356) Try.underlying48 rfl (by kernel_rfl)) rfl ?_
 exact er (bbw4 HB GE353 GE354 GE355 GE356)

attribute [local go_sem high] eqA48
/-! ### spec_CommutingOf: function 14 -/
mutual
def spec_CommutingOf.l0 : Nat → List (S48) → List (S48) → Int → Int → Int → Int → Option ((List (S48)) × Int)
 | 0, _, _, _, _, _, _ => none
 | k + 1, x2, x9, x10, x370000, x370001, x370002 => if x10 < (x2.length : Int) then (spec_CommutingOf.l1 k x2 x9 x10 true 0 x370000 x370001 x370002) else (some (x9, 0))
def spec_CommutingOf.l1 : Nat → List (S48) → List (S48) → Int → Bool → Int → Int → Int → Int → Option ((List (S48)) × Int)
 | 0, _, _, _, _, _, _, _, _ => none
 | k + 1, x2, x9, x10, x11, x12, x370000, x370001, x370002 => if x12 < (x2.length : Int) then (if x11 = true then (if 0 ≤ x10 then (if x10 < (x2.length : Int) then (if 0 ≤ x12 then ((spec_l15Product.f x370000 x370001 x370002 ((rd_T48 x2 x10).f0.f0) ((rd_T48 x2 x10).f0.f1) ((rd_T48 x2 x10).f0.f2) ((rd_T48 x2 x10).f0.f3) ((rd_T48 x2 x10).f1.f0) ((rd_T48 x2 x10).f1.f1) ((rd_T48 x2 x12).f0.f0) ((rd_T48 x2 x12).f0.f1) ((rd_T48 x2 x12).f0.f2) ((rd_T48 x2 x12).f0.f3) ((rd_T48 x2 x12).f1.f0) ((rd_T48 x2 x12).f1.f1)).bind fun bt376 => ((spec_l15Product.f x370000 x370001 x370002 ((rd_T48 x2 x12).f0.f0) ((rd_T48 x2 x12).f0.f1) ((rd_T48 x2 x12).f0.f2) ((rd_T48 x2 x12).f0.f3) ((rd_T48 x2 x12).f1.f0) ((rd_T48 x2 x12).f1.f1) ((rd_T48 x2 x10).f0.f0) ((rd_T48 x2 x10).f0.f1) ((rd_T48 x2 x10).f0.f2) ((rd_T48 x2 x10).f0.f3) ((rd_T48 x2 x10).f1.f0) ((rd_T48 x2 x10).f1.f1)).bind fun bt384 => (spec_CommutingOf.l1 k x2 x9 x10 ((bt376.1 == bt384.1 && (bt376.2.1 == bt384.2.1 && (bt376.2.2.1 == bt384.2.2.1 && (bt376.2.2.2.1 == bt384.2.2.2.1)))) && ((bt376.2.2.2.2.1 == bt384.2.2.2.2.1 && (bt376.2.2.2.2.2 == bt384.2.2.2.2.2)))) (wrap64 (x12 + 1)) x370000 x370001 x370002))) else (none)) else (none)) else (none)) else (spec_CommutingOf.l1 k x2 x9 x10 false (wrap64 (x12 + 1)) x370000 x370001 x370002)) else (if x11 = true then (if 0 ≤ x10 then (if x10 < (x2.length : Int) then (if x9.length < 2932031007402 then (spec_CommutingOf.l0 k x2 (x9 ++ [(⟨(⟨(rd_T48 x2 x10).f0.f0, (rd_T48 x2 x10).f0.f1, (rd_T48 x2 x10).f0.f2, (rd_T48 x2 x10).f0.f3⟩ : S44), (⟨(rd_T48 x2 x10).f1.f0, (rd_T48 x2 x10).f1.f1⟩ : S46)⟩ : S48)]) (wrap64 (x10 + 1)) x370000 x370001 x370002) else (none)) else (none)) else (none)) else (spec_CommutingOf.l0 k x2 x9 (wrap64 (x10 + 1)) x370000 x370001 x370002))
end
def spec_CommutingOf.f (k : Nat) (a0 : Int) (a1_0 : Int) (a1_1 : Int) (a1_2 : Int) (l2 : List (S48)) : Option ((List (S48)) × Int) := (spec_l15One.f k a0 a1_0 a1_1 a1_2 l2).bind fun t370 => (if t370 = 0 then (spec_CommutingOf.l0 k l2 (([] : List (S48))) 0 a1_0 a1_1 a1_2) else (some (([] : List (S48)), t370)))
def spec_CommutingOf.T12 : Bool × List (List Nat × List Nat) := (true, [([], []), ([0], [0]), ([1], [1]), ([1], [1]), ([1], [1]), ([3, 4, 1], [1, 3, 4]), ([5, 1], [1, 5]), ([1], [1]), ([1], [1]), ([7, 8, 1], [1, 7, 8]), ([9, 1], [1, 9]), ([2, 6, 10, 1, 1], [1, 2, 6, 10]), ([1], [1]), ([1], [1]), ([1], [1]), ([13, 14, 1], [1, 13, 14]), ([15, 1], [1, 15]), ([1], [1]), ([1], [1]), ([17, 18, 1], [1, 17, 18]), ([19, 1], [1, 19]), ([12, 16, 20, 11, 1], [1, 12, 16, 20]), ([11, 21, 1], [1, 11, 21]), ([1, 22], [1, 22]), ([23, 21, 0, 1, 2, 3, 4, 5, 6, 7, 8, 9, 10, 11, 12, 13, 14, 15, 16, 17, 18, 19, 20, 21, 22, 23], [0, 23])])
def spec_CommutingOf.B12 : List Nat := [0, 1, 3, 3, 3, 27, 59, 3, 3, 387, 899, 2047, 3, 3, 3, 24579, 57347, 3, 3, 393219, 917507, 2097151, 4194303, 8388607, 16777215]
theorem spec_CommutingOf.tab12 : rtab .any (opsOf Try.f14 12) = spec_CommutingOf.T12 := by kernel_rfl
theorem spec_CommutingOf.bits12 : waitsOk spec_CommutingOf.T12.2 spec_CommutingOf.B12 = true := by kernel_rfl
set_option maxHeartbeats 8000000 in
set_option maxRecDepth 100000 in
theorem spec_CommutingOf.calls (k : Nat) (a0 : Int) (a1_0 : Int) (a1_1 : Int) (a1_2 : Int) (A2 : Option Addr) (c2 : Nat) (l2 : List (S48)) (r1 : List (S48)) (r2 : Int) (w : World) (hr2 : Kd.C k48 w A2 l2.length l2) (hc2 : l2.length ≤ c2) (h : spec_CommutingOf.f k a0 a1_0 a1_1 a1_2 l2 = some (r1, r2)) :
  Calls Try.prog 14 #[.int .i64 a0, .agg #[.int .i64 a1_0, .int .i64 a1_1, .int .i64 a1_2], .slice A2 l2.length c2] w fun e w' => ∃ v0_ : Value, e = .returned (.tuple #[v0_, .int .i64 r2]) ∧ Kd.R k48 48 w' w.heap.size (fun _ => True) v0_ r1 ∧ Below w.heap.size w w' := by
 have hu29 := Try.underlying29
 have hu48 := Try.underlying48
 have HR2 := Aside0.mk hr2
 have HC2 := Aside0.mk hc2
 clear hr2 hc2
 have HB := asd (Below.refl w.heap.size w)
 have H : ((spec_l15One.f k a0 a1_0 a1_1 a1_2 l2).bind fun t370 => (if t370 = 0 then (spec_CommutingOf.l0 k l2 (([] : List (S48))) 0 a1_0 a1_1 a1_2) else (some (([] : List (S48)), t370)))) = some (r1, r2) := h
 clear h
 obtain ⟨t370, A4, H⟩ := ob H
 try dsimp only at H
 by_cases c5 : t370 = 0
 rw [if_pos c5] at H
 have c5b0 : (t370 == 0) = true := beq_iff_eq.mpr c5
 have c5b1 : (t370 != 0) = false := bne_eq_false_iff_eq.mpr c5
 clear c5
 obtain ⟨y371, hy371⟩ : ∃ y_ : List (S48), y_ = (([] : List (S48))) := ⟨_, rfl⟩
 replace H : (spec_CommutingOf.l0 k l2 y371 0 a1_0 a1_1 a1_2) = some (r1, r2) := by first | (rw [hy371]; with_reducible exact H) | (have H2_ := (Option.bind_some _ _).symm.trans H; rw [hy371]; with_reducible exact H2_) | (have H2_ := (Option.bind_some _ _).symm.trans H; with_reducible exact H2_) | with_reducible exact H | (rw [hy371]; exact H) | exact H
 have Ny371 := Aside0.mk hy371
 clear hy371
 have H' := Aside0.mk H
 clear H
 rotate_left
 rw [if_neg c5] at H
 have c5b0 : (t370 == 0) = false := beq_eq_false_iff_ne.mpr c5
 have c5b1 : (t370 != 0) = true := bne_iff_ne.mpr c5
 rotate_left
 rotate_left
 simp only [Option.some.injEq, Prod.mk.injEq] at H
 obtain ⟨rfl, rfl⟩ := H
 rotate_left
 all_goals
  go_enter Try.func14, Try.ntmps14
  go_wp2_with (first | ((with_reducible refine gd 4 rfl ?_); refine bx #[.int .i64 a1_0, .int .i64 a1_1, .int .i64 a1_2] 29 ?_; intro gb369 hg w6 BK369 hb; have GE369 := ngw0 hg HB; replace HB := bS0 HB hb; clear hb hg; obtain ⟨hcz7_0, hcz7_1, hcz7_2, hfz7_0, hfz7_1, hfz7_2⟩ := bz3 BK369) | ((with_reducible refine gate_callee (f := 25) rfl ?_); refine gl 16 Try.func25 #[.int .i64 a0, .agg #[.int .i64 a1_0, .int .i64 a1_1, .int .i64 a1_2], .slice A2 l2.length c2] ?_; (with_reducible refine (spec_l15One.calls _ _ _ _ _ _ _ _ _ _ ?side1 ?side2 A4.out).mono ?_); (case side1 => exact ks (Kd.C_below HR2.out HB.out)); (case side2 => exact HC2.out); rintro e w8 ⟨rfl, hb⟩; refine ⟨_, rfl, ?_⟩; replace BK369 := bB BK369 hb; replace HB := bS1 HB GE369 hb; (try clear hb)) | ((with_reducible refine gd 20 rfl ?_); refine Kd.R_lit k48 _ 48 ?hg (N := 20) ?hd (xs := ([] : List (S48))) (inner := []) (ok := fun _ => True) (okp := fun _ => True) ?hr ?hp (fun _ hk => hk) trivial (Below.refl _ _) (Nat.le_refl _) (by simp) ?_; (case hd => rfl); (case hg => rfl); (case hr => first | (go_simp; done) | (go_simp; rfl)); (case hp => exact (Reps.none _ _)); intro v372 w9 ho10 hb hg_ hnew_; clear hg_ hnew_; (first | rw [← Ny371.out] at ho10 | (simp only [Int.reduceToNat] at ho10; rw [← Ny371.out] at ho10)); have HO373 := asd (Kd.R_lower ho10 (bsz1 HB GE369)); replace BK369 := bB BK369 hb; replace HB := bS1 HB GE369 hb; clear hb ho10))
 ·go_loopg [9, 10] k (fun kq v9 v10 w' => ∃ (x9_1 : List (S48)) (x10_1 : Int), v10 = .int .i64 x10_1 ∧ Aside0 (spec_CommutingOf.l0 kq l2 x9_1 x10_1 a1_0 a1_1 a1_2 = some (r1, r2)) ∧ Aside0 (kq ≤ k) ∧ Aside0 (Kd.R k48 48 w' w.heap.size (fun _ => True) v9 x9_1) ∧ Aside0 (w'.heap[gb369]? = some (.cells #[.int .i64 a1_0, .int .i64 a1_1, .int .i64 a1_2] 29 (0, 0))) ∧ Aside0 (Below w.heap.size w w'))
  case atStart => exact ⟨(y371), (0), (by first | rfl | (simp; done) | (simp [*]; done)), H', ⟨Nat.le_refl _⟩, ⟨by (with_reducible repeat (first | apply Kd.R_alloc | apply Kd.R_drewN | apply Kd.R_drew)); exact HO373.out⟩, ⟨bkp BK369⟩, ⟨bbw1 HB GE369⟩⟩
  case round =>
   clear H'
   try clear c1
   try clear c2
   try clear p2
   try clear c5
   try clear c5b0
   try clear c5b1
   try clear hcz7_0
   try clear hcz7_1
   try clear hcz7_2
   try clear hfz7_0
   try clear hfz7_1
   try clear hfz7_2
   obtain ⟨x9_1, x10_1, rfl, HA, HK1, HO_9, BK369, HB⟩ := hrel
   cases gk with
   | zero => exact absurd HA.out (by simp [spec_CommutingOf.l0])
   | succ k1 =>
    have H := HA.out
    clear HA
    simp only [spec_CommutingOf.l0] at H
    by_cases c11 : x10_1 < (l2.length : Int)
    ·rw [if_pos c11] at H
     have c11b0 := decide_eq_true c11
     clear c11
     have H' := Aside0.mk H
     clear H
     go_wp2
     go_loopg [11, 12] k1 (fun kq v11 v12 w' => ∃ (x11_2 : Bool) (x12_2 : Int), v11 = .bool x11_2 ∧ v12 = .int .i64 x12_2 ∧ Aside0 (spec_CommutingOf.l1 kq l2 x9_1 x10_1 x11_2 x12_2 a1_0 a1_1 a1_2 = some (r1, r2)) ∧ Aside0 (kq ≤ k1) ∧ Aside0 (Kd.R k48 48 w' w.heap.size (fun _ => True) u9 x9_1) ∧ Aside0 (w'.heap[gb369]? = some (.cells #[.int .i64 a1_0, .int .i64 a1_1, .int .i64 a1_2] 29 (0, 0))) ∧ Aside0 (Below w.heap.size w w'))
     case atStart => exact ⟨(true), (0), (by first | rfl | (simp; done) | (simp [*]; done)), (by first | rfl | (simp; done) | (simp [*]; done)), H', ⟨Nat.le_refl _⟩, ⟨by (with_reducible repeat (first | apply Kd.R_alloc | apply Kd.R_drewN | apply Kd.R_drew)); exact HO_9.out⟩, ⟨bkp BK369⟩, ⟨bbw1 HB GE369⟩⟩
     case round =>
      clear H'
      try clear c1
      try clear c2
      try clear p2
      try clear c5
      try clear c5b0
      try clear c5b1
      try clear c11
      try clear c11b0
      try clear hcz7_0
      try clear hcz7_1
      try clear hcz7_2
      try clear hfz7_0
      try clear hfz7_1
      try clear hfz7_2
      try clear p2
      obtain ⟨x11_2, x12_2, rfl, rfl, HA, HK2, HO_9, BK369, HB⟩ := hrel
      cases gk with
      | zero => exact absurd HA.out (by simp [spec_CommutingOf.l1])
      | succ k2 =>
       have H := HA.out
       clear HA
       simp only [spec_CommutingOf.l1] at H
       by_cases c12 : x12_2 < (l2.length : Int)
       rw [if_pos c12] at H
       have c12b0 := decide_eq_true c12
       clear c12
       by_cases c13 : x11_2 = true
       subst c13
       replace H := ifT H
       by_cases c14 : 0 ≤ x10_1
       rw [if_pos c14] at H
       have c14b0 := decide_eq_true c14
       clear c14
       by_cases c15 : x10_1 < (l2.length : Int)
       rw [if_pos c15] at H
       have c15b0 := decide_eq_true c15
       clear c15
       by_cases c16 : 0 ≤ x12_2
       rw [if_pos c16] at H
       have c16b0 := decide_eq_true c16
       clear c16
       obtain ⟨⟨t376, t377, t378, t379, t380, t381⟩, A17, H⟩ := ob H
       try dsimp only at H
       obtain ⟨⟨t384, t385, t386, t387, t388, t389⟩, A18, H⟩ := ob H
       try dsimp only at H
       have H' := Aside0.mk H
       clear H
       rotate_left
       ·rw [if_neg c16] at H
        exact absurd H (by simp)
       ·rw [if_neg c15] at H
        exact absurd H (by simp)
       ·rw [if_neg c14] at H
        exact absurd H (by simp)
       replace c13 := Bool.eq_false_iff.mpr c13
       subst c13
       replace H := ifF H
       have H' := Aside0.mk H
       clear H
       rotate_left
       rw [if_neg c12] at H
       have c12b0 := decide_eq_false c12
       clear c12
       by_cases c23 : x11_2 = true
       subst c23
       replace H := ifT H
       by_cases c24 : 0 ≤ x10_1
       rw [if_pos c24] at H
       have c24b0 := decide_eq_true c24
       clear c24
       by_cases c25 : x10_1 < (l2.length : Int)
       rw [if_pos c25] at H
       have c25b0 := decide_eq_true c25
       clear c25
       by_cases c26 : x9_1.length < 2932031007402
       rw [if_pos c26] at H
       have LMc26 := Aside0.mk c26
       clear c26
       obtain ⟨y391, hy391⟩ : ∃ y_ : List (S48), y_ = (x9_1 ++ [(⟨(⟨(rd_T48 l2 x10_1).f0.f0, (rd_T48 l2 x10_1).f0.f1, (rd_T48 l2 x10_1).f0.f2, (rd_T48 l2 x10_1).f0.f3⟩ : S44), (⟨(rd_T48 l2 x10_1).f1.f0, (rd_T48 l2 x10_1).f1.f1⟩ : S46)⟩ : S48)]) := ⟨_, rfl⟩
       replace H : (spec_CommutingOf.l0 k2 l2 y391 (wrap64 (x10_1 + 1)) a1_0 a1_1 a1_2) = some (r1, r2) := by first | (rw [hy391]; with_reducible exact H) | (have H2_ := (Option.bind_some _ _).symm.trans H; rw [hy391]; with_reducible exact H2_) | (have H2_ := (Option.bind_some _ _).symm.trans H; with_reducible exact H2_) | with_reducible exact H | (rw [hy391]; exact H) | exact H
       have Ny391 := Aside0.mk hy391
       clear hy391
       have H' := Aside0.mk H
       clear H
       rotate_left
       ·rw [if_neg c26] at H
        exact absurd H (by simp)
       ·rw [if_neg c25] at H
        exact absurd H (by simp)
       ·rw [if_neg c24] at H
        exact absurd H (by simp)
       replace c23 := Bool.eq_false_iff.mpr c23
       subst c23
       replace H := ifF H
       have H' := Aside0.mk H
       clear H
       rotate_left
       rotate_left 2
       ·obtain ⟨p390, q390, ad390, e390, hx390_0, hx390_1, hx390_2, hx390_3, hx390_4, hx390_5⟩ := at_T48x HR2.out HB x10_1
        cases e390
        go_wp2_with (first | ((with_reducible refine gate_builtin (b := .append) (xs := #[.tmp 58, .tmp 63]) rfl ?_); at_builtin; refine Kd.R_append k48 (w0 := w) w.heap.size rfl (.tmp 58) (.tmp 63) 26 48 (.agg #[(.int .i64 0), (.int .i64 0), (.int .i64 0), (.int .i64 0), (.int .i64 0), (.int .i64 0)]) 48 rfl Try.underlying26 info48 rfl (by decide) (by omega) u9 x9_1 (⟨(⟨(rd_T48 l2 x10_1).f0.f0, (rd_T48 l2 x10_1).f0.f1, (rd_T48 l2 x10_1).f0.f2, (rd_T48 l2 x10_1).f0.f3⟩ : S44), (⟨(rd_T48 l2 x10_1).f1.f0, (rd_T48 l2 x10_1).f1.f1⟩ : S46)⟩ : S48) [.int .i64 ((rd_T48 l2 x10_1).f0.f0), .int .i64 ((rd_T48 l2 x10_1).f0.f1), .int .i64 ((rd_T48 l2 x10_1).f0.f2), .int .i64 ((rd_T48 l2 x10_1).f0.f3), .int .i64 ((rd_T48 l2 x10_1).f1.f0), .int .i64 ((rd_T48 l2 x10_1).f1.f1)] (fun _ => True) (fun _ => False) rfl rfl ?aP (fun _ hk => hk.elim) ?aF ?aO ?aB ?aS ?aL ?_; (case aP => exact k48_mkM _ _ _ (⟨(⟨(rd_T48 l2 x10_1).f0.f0, (rd_T48 l2 x10_1).f0.f1, (rd_T48 l2 x10_1).f0.f2, (rd_T48 l2 x10_1).f0.f3⟩ : S44), (⟨(rd_T48 l2 x10_1).f1.f0, (rd_T48 l2 x10_1).f1.f1⟩ : S46)⟩ : S48)); (case aB => exact (bbw1 HB GE369)); (case aF => exact (fun _ _ => trivial)); (case aO => exact (kr HO_9)); (case aS => exact (bsz1 HB GE369)); (case aL => have := LMc26.out; omega); intro v392 w27 ho hb hg hat; rw [← Ny391.out] at ho; have n0_ := asd (blk_grown (g := gb369) (o := .cells #[.int .i64 a1_0, .int .i64 a1_1, .int .i64 a1_2] 29 (0, 0)) (bkp BK369) hg (Kd.R_ne HO_9.out BK369.out (by decide))); have n1_ := asd (hb); have n2_ := asd (ho); clear BK369; clear HB; clear HO_9; have BK369 := n0_; have HB := n1_; have HO393 := n2_; clear n0_ n1_ n2_; clear ho hb hg hat))
        go_roundg k2
        case measure => have := HK1.out; have := HK2.out; omega
        case rel => exact ⟨(y391), (wrap64 (x10_1 + 1)), (by first | rfl | (simp; done) | (simp [*]; done)), H', ⟨by have := HK1.out; have := HK2.out; omega⟩, ⟨by (with_reducible repeat (first | apply Kd.R_alloc | apply Kd.R_drewN | apply Kd.R_drew)); exact HO393.out⟩, ⟨bkp BK369⟩, ⟨bbw1 HB GE369⟩⟩
       ·go_wp2
        go_roundg k2
        case measure => have := HK1.out; have := HK2.out; omega
        case rel => exact ⟨(x9_1), (wrap64 (x10_1 + 1)), (by first | rfl | (simp; done) | (simp [*]; done)), H', ⟨by have := HK1.out; have := HK2.out; omega⟩, ⟨by (with_reducible repeat (first | apply Kd.R_alloc | apply Kd.R_drewN | apply Kd.R_drew)); exact HO_9.out⟩, ⟨bkp BK369⟩, ⟨bbw1 HB GE369⟩⟩
       all_goals
        try go_wp2
        replace HO_9 := asd (Kd.R_drew HO_9.out)
        replace BK369 := asd (blk_drew BK369.out)
        replace HB := asd (below_drew1 HB.out)
       ·obtain ⟨p374, q374, ad374, e374, hw374_0, hw374_1, hw374_2, hw374_3, hw374_4, hw374_5, hx374_0, hx374_1, hx374_2, hx374_3, hx374_4, hx374_5⟩ := at_T48w HR2.out HB x10_1
        cases e374
        obtain ⟨p375, q375, ad375, e375, hw375_0, hw375_1, hw375_2, hw375_3, hw375_4, hw375_5, hx375_0, hx375_1, hx375_2, hx375_3, hx375_4, hx375_5⟩ := at_T48w HR2.out HB x12_2
        obtain rfl : ad374 = ad375 := (by injection e375)
        obtain ⟨p382, q382, ad382, e382, hw382_0, hw382_1, hw382_2, hw382_3, hw382_4, hw382_5, hx382_0, hx382_1, hx382_2, hx382_3, hx382_4, hx382_5⟩ := at_T48w HR2.out HB x12_2
        obtain rfl : ad374 = ad382 := (by injection e382)
        obtain ⟨p383, q383, ad383, e383, hw383_0, hw383_1, hw383_2, hw383_3, hw383_4, hw383_5, hx383_0, hx383_1, hx383_2, hx383_3, hx383_4, hx383_5⟩ := at_T48w HR2.out HB x10_1
        obtain rfl : ad374 = ad383 := (by injection e383)
        refine sh 25 (cb3 BK369 (cx6 HB hw374_0 hw374_1 hw374_2 hw374_3 hw374_4 hw374_5 (cx6 HB hw375_0 hw375_1 hw375_2 hw375_3 hw375_4 hw375_5 (cx6 HB hw382_0 hw382_1 hw382_2 hw382_3 hw382_4 hw382_5 (ex6 HB hw383_0 hw383_1 hw383_2 hw383_3 hw383_4 hw383_5))))) (fun hHeld => ?_); refine with_tabW spec_CommutingOf.tab12 spec_CommutingOf.bits12 (fun HT_ HW_ => ?_)
        generalize wr.drew = w19 at HO_9 BK369 HB hx374_0 hx374_1 hx374_2 hx374_3 hx374_4 hx374_5 hx375_0 hx375_1 hx375_2 hx375_3 hx375_4 hx375_5 hx382_0 hx382_1 hx382_2 hx382_3 hx382_4 hx382_5 hx383_0 hx383_1 hx383_2 hx383_3 hx383_4 hx383_5 hHeld ⊢
        refine pu 0 (some 33) (bT 25 1) HT_ ?_
        refine pu 1 (some 34) (bT 25 2) HT_ ?_
        refine pu 3 (some 36) (bs 25 11) HT_ ?_
        refine pu 4 (some 37) (bs 25 27) HT_ ?_
        refine pu 5 (some 38) (bs 25 59) HT_ ?_
        refine pu 7 (some 40) (bs 25 187) HT_ ?_
        refine pu 8 (some 41) (bs 25 443) HT_ ?_
        refine pu 9 (some 42) (bs 25 955) HT_ ?_
        refine pu 13 (some 46) (bs 25 9147) HT_ ?_
        refine pu 14 (some 47) (bs 25 25531) HT_ ?_
        refine pu 15 (some 48) (bs 25 58299) HT_ ?_
        refine pu 17 (some 50) (bs 25 189371) HT_ ?_
        refine pu 18 (some 51) (bs 25 451515) HT_ ?_
        refine pu 19 (some 52) (bs 25 975803) HT_ ?_
        refine ta 2 (some 35) (bs 25 975807) HT_ HW_ hHeld ?_
        refine ta 6 (some 39) (bs 25 975871) HT_ HW_ hHeld ?_
        refine ta 10 (some 43) (bs 25 976895) HT_ HW_ hHeld ?_
        refine ta 12 (some 45) (bs 25 980991) HT_ HW_ hHeld ?_
        refine ta 16 (some 49) (bs 25 1046527) HT_ HW_ hHeld ?_
        refine ta 20 (some 53) (bs 25 2095103) HT_ HW_ hHeld ?_
        refine ro 11 (some 44) (bT 25 21) HT_ (fun K hK => ?_)
        refine gs Try.func26 #[.agg #[.int .i64 a1_0, .int .i64 a1_1, .int .i64 a1_2], .agg #[.int .i64 ((rd_T48 l2 x10_1).f0.f0), .int .i64 ((rd_T48 l2 x10_1).f0.f1), .int .i64 ((rd_T48 l2 x10_1).f0.f2), .int .i64 ((rd_T48 l2 x10_1).f0.f3), .int .i64 ((rd_T48 l2 x10_1).f1.f0), .int .i64 ((rd_T48 l2 x10_1).f1.f1)], .agg #[.int .i64 ((rd_T48 l2 x12_2).f0.f0), .int .i64 ((rd_T48 l2 x12_2).f0.f1), .int .i64 ((rd_T48 l2 x12_2).f0.f2), .int .i64 ((rd_T48 l2 x12_2).f0.f3), .int .i64 ((rd_T48 l2 x12_2).f1.f0), .int .i64 ((rd_T48 l2 x12_2).f1.f1)]] ?_
        with_reducible refine (spec_l15Product.calls _ _ _ _ _ _ _ _ _ _ _ _ _ _ _ _ _ _ _ _ _ _ A17.out).mono ?_
        rintro e w20 ⟨rfl, hb⟩
        refine ⟨_, rfl, ?_⟩
        replace HO_9 := asd (Kd.R_below (kr HO_9) hb)
        replace BK369 := bB BK369 hb
        replace HB := bS1 HB GE369 hb
        (try clear hb)
        (try clear hb2)
        (try clear hk)
        (try clear hi)
        refine hK.out _ _ (cb3 BK369 (cx6 HB hw374_0 hw374_1 hw374_2 hw374_3 hw374_4 hw374_5 (cx6 HB hw375_0 hw375_1 hw375_2 hw375_3 hw375_4 hw375_5 (cx6 HB hw382_0 hw382_1 hw382_2 hw382_3 hw382_4 hw382_5 (ex6 HB hw383_0 hw383_1 hw383_2 hw383_3 hw383_4 hw383_5))))).out (fun hHeld => ?_)
        clear hK K
        refine norm_ (a' := ?_) ?_ ?_
        rotate_left
        ·show Act.put _ (some 44) _ = _
         simp only [Act.put, sA, sB, sC, i64_w, i32_w]
         rfl
        refine ro 21 (some 54) (bT 25 22) HT_ (fun K hK => ?_)
        refine gs Try.func26 #[.agg #[.int .i64 a1_0, .int .i64 a1_1, .int .i64 a1_2], .agg #[.int .i64 ((rd_T48 l2 x12_2).f0.f0), .int .i64 ((rd_T48 l2 x12_2).f0.f1), .int .i64 ((rd_T48 l2 x12_2).f0.f2), .int .i64 ((rd_T48 l2 x12_2).f0.f3), .int .i64 ((rd_T48 l2 x12_2).f1.f0), .int .i64 ((rd_T48 l2 x12_2).f1.f1)], .agg #[.int .i64 ((rd_T48 l2 x10_1).f0.f0), .int .i64 ((rd_T48 l2 x10_1).f0.f1), .int .i64 ((rd_T48 l2 x10_1).f0.f2), .int .i64 ((rd_T48 l2 x10_1).f0.f3), .int .i64 ((rd_T48 l2 x10_1).f1.f0), .int .i64 ((rd_T48 l2 x10_1).f1.f1)]] ?_
        with_reducible refine (spec_l15Product.calls _ _ _ _ _ _ _ _ _ _ _ _ _ _ _ _ _ _ _ _ _ _ A18.out).mono ?_
        rintro e w21 ⟨rfl, hb⟩
        refine ⟨_, rfl, ?_⟩
        replace HO_9 := asd (Kd.R_below (kr HO_9) hb)
        replace BK369 := bB BK369 hb
        replace HB := bS1 HB GE369 hb
        (try clear hb)
        (try clear hb2)
        (try clear hk)
        (try clear hi)
        refine hK.out _ _ (cb3 BK369 (cx6 HB hw374_0 hw374_1 hw374_2 hw374_3 hw374_4 hw374_5 (cx6 HB hw375_0 hw375_1 hw375_2 hw375_3 hw375_4 hw375_5 (cx6 HB hw382_0 hw382_1 hw382_2 hw382_3 hw382_4 hw382_5 (ex6 HB hw383_0 hw383_1 hw383_2 hw383_3 hw383_4 hw383_5))))).out (fun hHeld => ?_)
        clear hK K
        refine norm_ (a' := ?_) ?_ ?_
        rotate_left
        ·show Act.put _ (some 54) _ = _
         simp only [Act.put, sA, sB, sC, i64_w, i32_w]
         rfl
        refine pu 22 (some 55) (bT 25 23) HT_ ?_
        refine pu 23 (some 56) (bT 25 24) HT_ ?_
        refine pu 24 (some 11) (bT 25 25) HT_ ?_
        refine done_ (done_of HT_.out (by kernel_rfl)) ?_
        try go_wp2
        go_roundg k2
        case measure => have := HK1.out; have := HK2.out; omega
        case rel => exact ⟨(((t376 == t384 && (t377 == t385 && (t378 == t386 && (t379 == t387)))) && ((t380 == t388 && (t381 == t389))))), (wrap64 (x12_2 + 1)), (by first | rfl | (simp; done) | (simp [*]; done)), (by first | rfl | (simp; done) | (simp [*]; done)), H', ⟨by have := HK1.out; have := HK2.out; omega⟩, ⟨by (with_reducible repeat (first | apply Kd.R_alloc | apply Kd.R_drewN | apply Kd.R_drew)); exact HO_9.out⟩, ⟨bkp BK369⟩, ⟨bbw1 HB GE369⟩⟩
       ·refine start_ (n := 25) (S := fun w' => True) (ds := []) (bT 25 0) (by kernel_rfl) rfl rfl trivial (fun hHeld => ?_); refine with_tabW spec_CommutingOf.tab12 spec_CommutingOf.bits12 (fun HT_ HW_ => ?_)
        generalize wr.drew = w22 at HO_9 BK369 HB hHeld ⊢
        refine pu 0 (some 33) (bT 25 1) HT_ ?_
        refine pu 1 (some 34) (bT 25 2) HT_ ?_
        refine pf 2 (some 35) (bT 25 3) HT_ ?_
        refine pf 3 (some 36) (bT 25 4) HT_ ?_
        refine pf 4 (some 37) (bT 25 5) HT_ ?_
        refine pf 5 (some 38) (bT 25 6) HT_ ?_
        refine pf 6 (some 39) (bT 25 7) HT_ ?_
        refine pf 7 (some 40) (bT 25 8) HT_ ?_
        refine pf 8 (some 41) (bT 25 9) HT_ ?_
        refine pf 9 (some 42) (bT 25 10) HT_ ?_
        refine pf 10 (some 43) (bT 25 11) HT_ ?_
        refine pf 11 (some 44) (bT 25 12) HT_ ?_
        refine pf 12 (some 45) (bT 25 13) HT_ ?_
        refine pf 13 (some 46) (bT 25 14) HT_ ?_
        refine pf 14 (some 47) (bT 25 15) HT_ ?_
        refine pf 15 (some 48) (bT 25 16) HT_ ?_
        refine pf 16 (some 49) (bT 25 17) HT_ ?_
        refine pf 17 (some 50) (bT 25 18) HT_ ?_
        refine pf 18 (some 51) (bT 25 19) HT_ ?_
        refine pf 19 (some 52) (bT 25 20) HT_ ?_
        refine pf 20 (some 53) (bT 25 21) HT_ ?_
        refine pf 21 (some 54) (bT 25 22) HT_ ?_
        refine pf 22 (some 55) (bT 25 23) HT_ ?_
        refine pu 23 (some 56) (bT 25 24) HT_ ?_
        refine pu 24 (some 11) (bT 25 25) HT_ ?_
        refine done_ (done_of HT_.out (by kernel_rfl)) ?_
        try go_wp2
        go_roundg k2
        case measure => have := HK1.out; have := HK2.out; omega
        case rel => exact ⟨(false), (wrap64 (x12_2 + 1)), (by first | rfl | (simp; done) | (simp [*]; done)), (by first | rfl | (simp; done) | (simp [*]; done)), H', ⟨by have := HK1.out; have := HK2.out; omega⟩, ⟨by (with_reducible repeat (first | apply Kd.R_alloc | apply Kd.R_drewN | apply Kd.R_drew)); exact HO_9.out⟩, ⟨bkp BK369⟩, ⟨bbw1 HB GE369⟩⟩
    ·rw [if_neg c11] at H
     have c11b0 := decide_eq_false c11
     clear c11
     simp only [Option.some.injEq, Prod.mk.injEq] at H
     obtain ⟨rfl, rfl⟩ := H
     go_wp2
     go_ret2
     exact ⟨_, by first | rfl | (simp [errW_none, errW_some] <;> rfl) | (simp [*, errW_none, errW_some] <;> rfl), by (with_reducible repeat (first | apply Kd.R_alloc | apply Kd.R_drewN | apply Kd.R_drew)); exact HO_9.out, bbw1 HB GE369⟩
 ·go_ret2
  exact ⟨_, by first | rfl | (simp [errW_none, errW_some] <;> rfl) | (simp [*, errW_none, errW_some] <;> rfl), by first | exact Kd.R_nil _ _ _ _ _ | exact Kd.N_nil _ _ _ _ _ | exact Kd.V_nil _ _ _ _ _ | exact Kd.Q_nil _ _ _ _ _ | exact Kd.S_nil _ _ _ _ _, bbw1 HB GE369⟩
/-! ### impl_within: function 97 -/
def impl_within.f (a0 : Int) (a1 : Int) (a2 : Int) : Option (Bool) := if a0 ≥ a1 then (some (decide (a0 ≤ a2))) else (some false)
set_option maxHeartbeats 8000000 in
set_option maxRecDepth 100000 in
theorem impl_within.calls (a0 : Int) (a1 : Int) (a2 : Int) (r : Bool) (w : World) (h : impl_within.f a0 a1 a2 = some r) :
  Calls Try.prog 97 #[.int .i64 a0, .int .i64 a1, .int .i64 a2] w fun e w' => e = .returned (.bool r) ∧ Drawn0 w w' := by
 have H : (if a0 ≥ a1 then (some (decide (a0 ≤ a2))) else (some false)) = some r := h
 clear h
 by_cases c4 : a0 ≥ a1
 ·rw [if_pos c4] at H
  have c4b0 : decide (a1 ≤ a0) = true := decide_eq_true c4
  clear c4
  obtain rfl := Option.some.inj H
  go_enter Try.func97, Try.ntmps97
  go_wp2
  go_ret
  exact ⟨by first | rfl | (simp; done) | (simp [*]; done), by repeat (first | exact Drawn0.refl _ | apply Drawn0.step)⟩
 ·rw [if_neg c4] at H
  have c4b0 : decide (a1 ≤ a0) = false := decide_eq_false c4
  clear c4
  obtain rfl := Option.some.inj H
  go_enter Try.func97, Try.ntmps97
  go_wp2
  go_ret
  exact ⟨by first | rfl | (simp; done) | (simp [*]; done), by repeat (first | exact Drawn0.refl _ | apply Drawn0.step)⟩
/-! ### impl_IsFrame: function 80 -/
def impl_IsFrame.f (a0 : Int) : Option (Bool) := (impl_within.f a0 0 1).bind fun t394 => (some t394)
set_option maxHeartbeats 8000000 in
set_option maxRecDepth 100000 in
theorem impl_IsFrame.calls (a0 : Int) (r : Bool) (w : World) (h : impl_IsFrame.f a0 = some r) :
  Calls Try.prog 80 #[.int .i64 a0] w fun e w' => e = .returned (.bool r) ∧ Drawn0 w w' := by
 have H : ((impl_within.f a0 0 1).bind fun t394 => (some t394)) = some r := h
 clear h
 obtain ⟨t394, A2, H⟩ := ob H
 try dsimp only at H
 obtain rfl := Option.some.inj H
 go_enter Try.func80, Try.ntmps80
 go_wp2_with (first | ((with_reducible refine gate_callee (f := 97) rfl ?_); refine gl 4 Try.func97 #[.int .i64 a0, .int .i64 0, .int .i64 1] ?_; (with_reducible refine (impl_within.calls _ _ _ _ _ A2.out).mono ?_); rintro e w' ⟨rfl, ⟨nd, rfl⟩⟩; refine ⟨_, rfl, ?_⟩))
 go_ret
 exact ⟨by first | rfl | (simp; done) | (simp [*]; done), by repeat (first | exact Drawn0.refl _ | apply Drawn0.step)⟩
/-! ### impl_Lattice_index: function 98 -/
def impl_Lattice_index.f (a0_0 : Int) (a0_1 : Int) (a0_2 : Int) : Option (Int) := some (wrap64 (a0_0 * a0_2))
set_option maxHeartbeats 8000000 in
set_option maxRecDepth 100000 in
theorem impl_Lattice_index.calls (a0_0 : Int) (a0_1 : Int) (a0_2 : Int) (r : Int) (w : World) (h : impl_Lattice_index.f a0_0 a0_1 a0_2 = some r) :
  Calls Try.prog 98 #[.agg #[.int .i64 a0_0, .int .i64 a0_1, .int .i64 a0_2]] w fun e w' => e = .returned (.int .i64 r) ∧ Below w.heap.size w w' := by
 have hu29 := Try.underlying29
 have HB := asd (Below.refl w.heap.size w)
 have H : (some (wrap64 (a0_0 * a0_2))) = some r := h
 clear h
 obtain rfl := Option.some.inj H
 go_enter Try.func98, Try.ntmps98
 go_wp2_with (first | ((with_reducible refine gd 1 rfl ?_); refine bx #[.int .i64 a0_0, .int .i64 a0_1, .int .i64 a0_2] 29 ?_; intro gb395 hg w2 BK395 hb; have GE395 := ngw0 hg HB; replace HB := bS0 HB hb; clear hb hg; obtain ⟨hcz3_0, hcz3_1, hcz3_2, hfz3_0, hfz3_1, hfz3_2⟩ := bz3 BK395))
 go_ret
 exact er (bbw1 HB GE395)

end Go.Proofs.Ytilbokbfcmeleaa.PA
