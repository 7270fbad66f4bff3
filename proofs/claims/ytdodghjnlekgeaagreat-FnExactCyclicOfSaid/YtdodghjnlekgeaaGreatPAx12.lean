import Derived.Test.YtdodghjnlekgeaaGreatPAx0
import Derived.Test.YtdodghjnlekgeaaGreatPAx7
import Derived.Test.YtdodghjnlekgeaaGreatPAx9
import Derived.Test.YtdodghjnlekgeaaGreatPAx11
namespace Go.Proofs.YtdodghjnlekgeaaGreat.PA
open Go.RowKit Go.Proofs.YtdodghjnlekgeaaGreatW.PrintWords Go.Proofs.YtdodghjnlekgeaaGreatW.PrintLast Go.Proofs.YtdodghjnlekgeaaGreatW.PrintMore
attribute [local go_sem] max2_int min2_int max_two min_two max_three min_three max_four min_four   -- for this text's walks alone
set_option linter.unusedVariables false
set_option maxHeartbeats 8000000
set_option maxRecDepth 100000
set_option linter.unusedSimpArgs false
def spec_l07Code.f (k : Nat) (a0 : Int) (a1_0 : Int) (a1_1 : Int) (a1_2 : Int) (l2 : List (S48)) (a3 : Bool) : Option (Int) := if a3 = true then ((spec_IsGroup.f k a0 a1_0 a1_1 a1_2 l2).bind fun t374 => ((spec_l06Code.f a0 a1_0 a1_1 a1_2 t374).bind fun t375 => (some t375))) else ((spec_l06Code.f a0 a1_0 a1_1 a1_2 false).bind fun t376 => (some t376))
def spec_l07Code.T1 : Bool × List (List Nat × List Nat) := (true, [([], []), ([], []), ([], []), ([2], [2]), ([3], [3]), ([3], [3]), ([3], [3]), ([4, 5, 6, 3, 3], [3, 4, 5, 6]), ([3, 7], [3, 7]), ([0, 1, 8, 7], [0, 1, 8]), ([9, 9, 0, 1, 2, 3, 4, 5, 6, 7, 8, 9], [9])])
def spec_l07Code.B1 : List Nat := [0, 0, 0, 4, 12, 12, 12, 124, 252, 511, 1023]
theorem spec_l07Code.tab1 : rtab .any (opsOf Tryz.f48 1) = spec_l07Code.T1 := by kernel_rfl
theorem spec_l07Code.bits1 : waitsOk spec_l07Code.T1.2 spec_l07Code.B1 = true := by kernel_rfl
theorem spec_l07Code.calls (k : Nat) (a0 : Int) (a1_0 : Int) (a1_1 : Int) (a1_2 : Int) (A2 : Option Addr) (c2 : Nat) (l2 : List (S48)) (a3 : Bool) (r : Int) (w : World) (hr2 : Kd.C k48 w A2 l2.length l2) (hc2 : l2.length ≤ c2) (h : spec_l07Code.f k a0 a1_0 a1_1 a1_2 l2 a3 = some r) :
  Calls Tryz.prog 48 #[.int .i64 a0, .agg #[.int .i64 a1_0, .int .i64 a1_1, .int .i64 a1_2], .slice A2 l2.length c2, .bool a3] w fun e w' => e = .returned (.int .i64 r) ∧ Below w.heap.size w w' := by
 have hu29 := Tryz.underlying29
 have HR2 := Aside0.mk hr2
 have HC2 := Aside0.mk hc2
 clear hr2 hc2
 have HB := asd (Below.refl w.heap.size w)
 have H : (if a3 = true then ((spec_IsGroup.f k a0 a1_0 a1_1 a1_2 l2).bind fun t374 => ((spec_l06Code.f a0 a1_0 a1_1 a1_2 t374).bind fun t375 => (some t375))) else ((spec_l06Code.f a0 a1_0 a1_1 a1_2 false).bind fun t376 => (some t376))) = some r := h
 clear h
 by_cases c5 : a3 = true
 subst c5
 replace H := ifT H
 obtain ⟨t374, A6, H⟩ := ob H
 try dsimp only at H
 obtain ⟨t375, A7, H⟩ := ob H
 try dsimp only at H
 obtain rfl := Option.some.inj H
 rotate_left
 replace c5 := Bool.eq_false_iff.mpr c5
 subst c5
 replace H := ifF H
 obtain ⟨t376, A7, H⟩ := ob H
 try dsimp only at H
 obtain rfl := Option.some.inj H
 rotate_left
 all_goals
  go_enter Tryz.func48, Tryz.ntmps48
  try go_wp2_with (first | ((with_reducible refine gd 5 rfl ?_); refine bx #[.int .i64 a1_0, .int .i64 a1_1, .int .i64 a1_2] 29 ?_; intro gb373 hg w8 BK373 hb; have GE373 := ngw0 hg HB; replace HB := bS0 HB hb; clear hb hg))
  replace BK373 := asd (blk_drew BK373.out)
  replace HB := asd (below_drew1 HB.out)
  refine sh 11 (eb3 BK373) (fun hHeld => ?_); refine with_tabW spec_l07Code.tab1 spec_l07Code.bits1 (fun HT_ HW_ => ?_)
  generalize w8.drew = w9 at BK373 HB hHeld ⊢
  refine pu 0 (some 9) (bT 11 1) HT_ ?_
  refine pu 2 (some 11) (bs 11 5) HT_ ?_
  refine pu 3 (some 12) (bs 11 13) HT_ ?_
 focus
  refine pu 4 (some 13) (bs 11 29) HT_ ?_
  refine pu 6 (some 15) (bs 11 93) HT_ ?_
  refine ta 1 (some 10) (bs 11 95) HT_ HW_ hHeld ?_
  refine ta 5 (some 14) (bT 11 7) HT_ HW_ hHeld ?_
  refine ro 7 (some 16) (bT 11 8) HT_ (fun K hK => ?_)
  refine gs Tryz.func39 #[.int .i64 a0, .agg #[.int .i64 a1_0, .int .i64 a1_1, .int .i64 a1_2], .slice A2 l2.length c2] ?_
  with_reducible refine (spec_IsGroup.calls _ _ _ _ _ _ _ _ _ _ ?side1 ?side2 A6.out).mono ?_
  (case side1 => exact ks (Kd.C_below HR2.out HB.out))
  (case side2 => exact HC2.out)
  rintro e w10 ⟨rfl, hb⟩
  refine ⟨_, rfl, ?_⟩
  replace BK373 := bB BK373 hb
  replace HB := bS1 HB GE373 hb
  (try clear hb)
  (try clear hb2)
  (try clear hk)
  (try clear hi)
  refine hK.out _ _ (eb3 BK373).out (fun hHeld => ?_)
  clear hK K
  refine norm_ (a' := ?_) ?_ ?_
  rotate_left
  ·show Act.put _ (some 16) _ = _
   simp only [Act.put, sA, sB, sC, i64_w, i32_w]
   rfl
  refine pu 8 (some 17) (bT 11 9) HT_ ?_
  refine ro 9 (some 18) (bT 11 10) HT_ (fun K hK => ?_)
  refine gs Tryz.func31 #[.int .i64 a0, .agg #[.int .i64 a1_0, .int .i64 a1_1, .int .i64 a1_2], .bool t374] ?_
 rotate_left
 refine pf 4 (some 13) (bs 11 29) HT_ ?_
 refine pf 5 (some 14) (bs 11 61) HT_ ?_
 refine pf 6 (some 15) (bs 11 125) HT_ ?_
 refine pf 7 (some 16) (bs 11 253) HT_ ?_
 refine pu 8 (some 17) (bs 11 509) HT_ ?_
 refine ta 1 (some 10) (bT 11 9) HT_ HW_ hHeld ?_
 refine ro 9 (some 18) (bT 11 10) HT_ (fun K hK => ?_)
 refine gs Tryz.func31 #[.int .i64 a0, .agg #[.int .i64 a1_0, .int .i64 a1_1, .int .i64 a1_2], .bool false] ?_
 rotate_left
 all_goals
  with_reducible refine (spec_l06Code.calls _ _ _ _ _ _ _ A7.out).mono ?_
  rintro e w11 ⟨rfl, hb⟩
  refine ⟨_, rfl, ?_⟩
  replace BK373 := bB BK373 hb
  replace HB := bS1 HB GE373 hb
  (try clear hb)
  (try clear hb2)
  (try clear hk)
  (try clear hi)
  refine hK.out _ _ (eb3 BK373).out (fun hHeld => ?_)
  clear hK K
  refine norm_ (a' := ?_) ?_ ?_
  rotate_left
  ·show Act.put _ (some 18) _ = _
   simp only [Act.put, sA, sB, sC, i64_w, i32_w]
   rfl
  refine pu 10 (some 8) (bT 11 11) HT_ ?_
  refine done_ (done_of HT_.out (by kernel_rfl)) ?_
  try go_wp2
  go_ret
  exact er (bbw1 HB GE373)
def spec_l15Inside.l0 : Nat → List (S48) → List (S48) → Int → Option (Bool)
 | 0, _, _, _ => none
 | k + 1, x0, x1, x5 => if x5 < (x1.length : Int) then (if 0 ≤ x5 then ((spec_l06Has.f k x0 ((rd_T48 x1 x5).f0.f0) ((rd_T48 x1 x5).f0.f1) ((rd_T48 x1 x5).f0.f2) ((rd_T48 x1 x5).f0.f3) ((rd_T48 x1 x5).f1.f0) ((rd_T48 x1 x5).f1.f1)).bind fun t378 => (if t378 = true then (spec_l15Inside.l0 k x0 x1 (wrap64 (x5 + 1))) else (some false))) else (none)) else (some true)
def spec_l15Inside.f (k : Nat) (l0 : List (S48)) (l1 : List (S48)) : Option (Bool) := spec_l15Inside.l0 k l0 l1 0
theorem spec_l15Inside.calls (k : Nat) (A0 : Option Addr) (c0 : Nat) (l0 : List (S48)) (A1 : Option Addr) (c1 : Nat) (l1 : List (S48)) (r : Bool) (w : World) (hr0 : Kd.C k48 w A0 l0.length l0) (hc0 : l0.length ≤ c0) (hr1 : Kd.C k48 w A1 l1.length l1) (hc1 : l1.length ≤ c1) (h : spec_l15Inside.f k l0 l1 = some r) :
  Calls Tryz.prog 88 #[.slice A0 l0.length c0, .slice A1 l1.length c1] w fun e w' => e = .returned (.bool r) ∧ Below w.heap.size w w' := by
 have hu48 := Tryz.underlying48
 have HR0 := Aside0.mk hr0
 have HC0 := Aside0.mk hc0
 clear hr0 hc0
 have HR1 := Aside0.mk hr1
 have HC1 := Aside0.mk hc1
 clear hr1 hc1
 have HB := asd (Below.refl w.heap.size w)
 have H : (spec_l15Inside.l0 k l0 l1 0) = some r := h
 clear h
 have H' := Aside0.mk H
 clear H
 go_enter Tryz.func88, Tryz.ntmps88
 go_wp2
 go_loopg [5] k (fun kq v5 w' => ∃ (x5_1 : Int), v5 = .int .i64 x5_1 ∧ Aside0 (spec_l15Inside.l0 kq l0 l1 x5_1 = some r) ∧ Aside0 (kq ≤ k) ∧ Aside0 (Below w.heap.size w w'))
 case atStart => exact ⟨(0), (by first | rfl | (simp; done) | (simp [*]; done)), H', ⟨Nat.le_refl _⟩, ⟨bbw0 HB⟩⟩
 case round =>
  clear H'
  try clear c1
  try clear p2
  obtain ⟨x5_1, rfl, HA, HK1, HB⟩ := hrel
  cases gk with
  | zero => exact absurd HA.out (by simp [spec_l15Inside.l0])
  | succ k1 =>
   have H := HA.out
   clear HA
   simp only [spec_l15Inside.l0] at H
   by_cases c3 : x5_1 < (l1.length : Int)
   rw [if_pos c3] at H
   have c3b0 := decide_eq_true c3
   clear c3
   by_cases c4 : 0 ≤ x5_1
   rw [if_pos c4] at H
   have c4b0 := decide_eq_true c4
   clear c4
   obtain ⟨t378, A5, H⟩ := ob H
   try dsimp only at H
   by_cases c6 : t378 = true
   subst c6
   replace H := ifT H
   have H' := Aside0.mk H
   clear H
   rotate_left
   replace c6 := Bool.eq_false_iff.mpr c6
   subst c6
   replace H := ifF H
   obtain rfl := Option.some.inj H
   rotate_left
   ·rw [if_neg c4] at H
    exact absurd H (by simp)
   rw [if_neg c3] at H
   have c3b0 := decide_eq_false c3
   clear c3
   obtain rfl := Option.some.inj H
   rotate_left
   rotate_left 2
   ·go_wp2
    go_ret
    exact er (bbw0 HB)
   all_goals
    obtain ⟨p377, q377, ad377, e377, hx377_0, hx377_1, hx377_2, hx377_3, hx377_4, hx377_5⟩ := at_T48x HR1.out HB x5_1
    cases e377
    go_wp2_with (first | ((with_reducible refine gate_callee (f := 49) rfl ?_); refine gl 17 Tryz.func49 #[.slice A0 l0.length c0, .agg #[.int .i64 ((rd_T48 l1 x5_1).f0.f0), .int .i64 ((rd_T48 l1 x5_1).f0.f1), .int .i64 ((rd_T48 l1 x5_1).f0.f2), .int .i64 ((rd_T48 l1 x5_1).f0.f3), .int .i64 ((rd_T48 l1 x5_1).f1.f0), .int .i64 ((rd_T48 l1 x5_1).f1.f1)]] ?_; (with_reducible refine (spec_l06Has.calls _ _ _ _ _ _ _ _ _ _ _ _ ?side1 ?side2 A5.out).mono ?_); (case side1 => exact ks (Kd.C_below HR0.out HB.out)); (case side2 => exact HC0.out); rintro e w7 ⟨rfl, hb⟩; refine ⟨_, rfl, ?_⟩; replace HB := bS0 HB hb; (try clear hb)))
   ·go_roundg k1
    case measure => have := HK1.out; omega
    case rel => exact ⟨(wrap64 (x5_1 + 1)), (by first | rfl | (simp; done) | (simp [*]; done)), H', ⟨by have := HK1.out; omega⟩, ⟨bbw0 HB⟩⟩
   ·go_ret
    exact er (bbw0 HB)
def spec_l15Code.f (k : Nat) (a0 : Int) (a1_0 : Int) (a1_1 : Int) (a1_2 : Int) (l2 : List (S48)) (l3 : List (S48)) : Option (Int) := (spec_IsGroup.f k a0 a1_0 a1_1 a1_2 l3).bind fun t380 => ((spec_l07Code.f k a0 a1_0 a1_1 a1_2 l2 t380).bind fun t381 => (if t381 = 0 then (if (l2.length : Int) > 48 then (some 3) else ((spec_l15Inside.f k l2 l3).bind fun t382 => (if t382 = true then (some 0) else (some 5)))) else (some t381)))
def spec_l15Code.T1 : Bool × List (List Nat × List Nat) := (true, [([], []), ([], []), ([], []), ([], []), ([], []), ([], []), ([3, 4, 5], [3, 4, 5]), ([0, 1, 2, 6, 6], [0, 1, 2, 6]), ([7, 7, 0, 1, 2, 3, 4, 5, 6, 7], [7])])
def spec_l15Code.B1 : List Nat := [0, 0, 0, 0, 0, 0, 56, 127, 255]
theorem spec_l15Code.tab1 : rtab .any (opsOf Tryz.f56 1) = spec_l15Code.T1 := by kernel_rfl
theorem spec_l15Code.bits1 : waitsOk spec_l15Code.T1.2 spec_l15Code.B1 = true := by kernel_rfl
theorem spec_l15Code.calls (k : Nat) (a0 : Int) (a1_0 : Int) (a1_1 : Int) (a1_2 : Int) (A2 : Option Addr) (c2 : Nat) (l2 : List (S48)) (A3 : Option Addr) (c3 : Nat) (l3 : List (S48)) (r : Int) (w : World) (hr2 : Kd.C k48 w A2 l2.length l2) (hc2 : l2.length ≤ c2) (hr3 : Kd.C k48 w A3 l3.length l3) (hc3 : l3.length ≤ c3) (h : spec_l15Code.f k a0 a1_0 a1_1 a1_2 l2 l3 = some r) :
  Calls Tryz.prog 56 #[.int .i64 a0, .agg #[.int .i64 a1_0, .int .i64 a1_1, .int .i64 a1_2], .slice A2 l2.length c2, .slice A3 l3.length c3] w fun e w' => e = .returned (.int .i64 r) ∧ Below w.heap.size w w' := by
 have hu29 := Tryz.underlying29
 have HR2 := Aside0.mk hr2
 have HC2 := Aside0.mk hc2
 clear hr2 hc2
 have HR3 := Aside0.mk hr3
 have HC3 := Aside0.mk hc3
 clear hr3 hc3
 have HB := asd (Below.refl w.heap.size w)
 have H : ((spec_IsGroup.f k a0 a1_0 a1_1 a1_2 l3).bind fun t380 => ((spec_l07Code.f k a0 a1_0 a1_1 a1_2 l2 t380).bind fun t381 => (if t381 = 0 then (if (l2.length : Int) > 48 then (some 3) else ((spec_l15Inside.f k l2 l3).bind fun t382 => (if t382 = true then (some 0) else (some 5)))) else (some t381)))) = some r := h
 clear h
 obtain ⟨t380, A5, H⟩ := ob H
 try dsimp only at H
 obtain ⟨t381, A6, H⟩ := ob H
 try dsimp only at H
 by_cases c7 : t381 = 0
 rw [if_pos c7] at H
 have c7b0 : (t381 == 0) = true := beq_iff_eq.mpr c7
 have c7b1 : (t381 != 0) = false := bne_eq_false_iff_eq.mpr c7
 clear c7
 by_cases c8 : (l2.length : Int) > 48
 rw [if_pos c8] at H
 have c8b0 : decide (48 < (l2.length : Int)) = true := decide_eq_true c8
 have c8b1 : decide (48 < l2.length) = true := decide_eq_true (by omega)
 clear c8
 obtain rfl := Option.some.inj H
 rotate_left
 rw [if_neg c8] at H
 have c8b0 : decide (48 < (l2.length : Int)) = false := decide_eq_false c8
 have c8b1 : decide (48 < l2.length) = false := decide_eq_false (by omega)
 clear c8
 obtain ⟨t382, A13, H⟩ := ob H
 try dsimp only at H
 by_cases c14 : t382 = true
 subst c14
 replace H := ifT H
 obtain rfl := Option.some.inj H
 rotate_left
 replace c14 := Bool.eq_false_iff.mpr c14
 subst c14
 replace H := ifF H
 obtain rfl := Option.some.inj H
 rotate_left
 rw [if_neg c7] at H
 have c7b0 : (t381 == 0) = false := beq_eq_false_iff_ne.mpr c7
 have c7b1 : (t381 != 0) = true := bne_iff_ne.mpr c7
 obtain rfl := Option.some.inj H
 rotate_left
 all_goals
  go_enter Tryz.func56, Tryz.ntmps56
  try go_wp2_with (first | ((with_reducible refine gd 5 rfl ?_); refine bx #[.int .i64 a1_0, .int .i64 a1_1, .int .i64 a1_2] 29 ?_; intro gb379 hg w9 BK379 hb; have GE379 := ngw0 hg HB; replace HB := bS0 HB hb; clear hb hg))
  replace BK379 := asd (blk_drew BK379.out)
  replace HB := asd (below_drew1 HB.out)
  refine sh 9 (eb3 BK379) (fun hHeld => ?_); refine with_tabW spec_l15Code.tab1 spec_l15Code.bits1 (fun HT_ HW_ => ?_)
  generalize w9.drew = w10 at BK379 HB hHeld ⊢
  refine pu 0 (some 10) (bT 9 1) HT_ ?_
  refine pu 2 (some 12) (bs 9 5) HT_ ?_
  refine pu 3 (some 13) (bs 9 13) HT_ ?_
  refine pu 5 (some 15) (bs 9 45) HT_ ?_
  refine ta 1 (some 11) (bs 9 47) HT_ HW_ hHeld ?_
  refine ta 4 (some 14) (bT 9 6) HT_ HW_ hHeld ?_
  refine ro 6 (some 16) (bT 9 7) HT_ (fun K hK => ?_)
  refine gs Tryz.func39 #[.int .i64 a0, .agg #[.int .i64 a1_0, .int .i64 a1_1, .int .i64 a1_2], .slice A3 l3.length c3] ?_
  with_reducible refine (spec_IsGroup.calls _ _ _ _ _ _ _ _ _ _ ?side1 ?side2 A5.out).mono ?_
  (case side1 => exact ks (Kd.C_below HR3.out HB.out))
  (case side2 => exact HC3.out)
  rintro e w11 ⟨rfl, hb⟩
  refine ⟨_, rfl, ?_⟩
  replace BK379 := bB BK379 hb
  replace HB := bS1 HB GE379 hb
  (try clear hb)
  (try clear hb2)
  (try clear hk)
  (try clear hi)
  refine hK.out _ _ (eb3 BK379).out (fun hHeld => ?_)
  clear hK K
  refine norm_ (a' := ?_) ?_ ?_
  rotate_left
  ·show Act.put _ (some 16) _ = _
   simp only [Act.put, sA, sB, sC, i64_w, i32_w]
   rfl
  refine ro 7 (some 17) (bT 9 8) HT_ (fun K hK => ?_)
  refine gs Tryz.func48 #[.int .i64 a0, .agg #[.int .i64 a1_0, .int .i64 a1_1, .int .i64 a1_2], .slice A2 l2.length c2, .bool t380] ?_
  with_reducible refine (spec_l07Code.calls _ _ _ _ _ _ _ _ _ _ _ ?side1 ?side2 A6.out).mono ?_
  (case side1 => exact ks (Kd.C_below HR2.out HB.out))
  (case side2 => exact HC2.out)
  rintro e w12 ⟨rfl, hb⟩
  refine ⟨_, rfl, ?_⟩
  replace BK379 := bB BK379 hb
  replace HB := bS1 HB GE379 hb
  (try clear hb)
  (try clear hb2)
  (try clear hk)
  (try clear hi)
  refine hK.out _ _ (eb3 BK379).out (fun hHeld => ?_)
  clear hK K
  refine norm_ (a' := ?_) ?_ ?_
  rotate_left
  ·show Act.put _ (some 17) _ = _
   simp only [Act.put, sA, sB, sC, i64_w, i32_w]
   rfl
  refine pu 8 (some 9) (bT 9 9) HT_ ?_
  refine done_ (done_of HT_.out (by kernel_rfl)) ?_
 ·try go_wp2
  go_ret
  exact er (bbw1 HB GE379)
 rotate_left 2
 ·try go_wp2
  go_ret
  exact er (bbw1 HB GE379)
 all_goals
  try go_wp2_with (first | ((with_reducible refine gate_callee (f := 88) rfl ?_); refine gl 29 Tryz.func88 #[.slice A2 l2.length c2, .slice A3 l3.length c3] ?_; (with_reducible refine (spec_l15Inside.calls _ _ _ _ _ _ _ _ _ ?side1 ?side2 ?side3 ?side4 A13.out).mono ?_); (case side1 => exact ks (Kd.C_below HR2.out HB.out)); (case side2 => exact HC2.out); (case side3 => exact ks (Kd.C_below HR3.out HB.out)); (case side4 => exact HC3.out); rintro e w19 ⟨rfl, hb⟩; refine ⟨_, rfl, ?_⟩; replace BK379 := bB BK379 hb; replace HB := bS1 HB GE379 hb; (try clear hb)))
  go_ret
  exact er (bbw1 HB GE379)
def spec_l15One.f (k : Nat) (a0 : Int) (a1_0 : Int) (a1_1 : Int) (a1_2 : Int) (l2 : List (S48)) : Option (Int) := (spec_l06Unit.f).bind fun bt384 => ((spec_l15Code.f k a0 a1_0 a1_1 a1_2 l2 (([(⟨(⟨bt384.1, bt384.2.1, bt384.2.2.1, bt384.2.2.2.1⟩ : S46), (⟨bt384.2.2.2.2.1, bt384.2.2.2.2.2⟩ : S38)⟩ : S48)] : List (S48)))).bind fun t393 => (some t393))
theorem spec_l15One.calls (k : Nat) (a0 : Int) (a1_0 : Int) (a1_1 : Int) (a1_2 : Int) (A2 : Option Addr) (c2 : Nat) (l2 : List (S48)) (r : Int) (w : World) (hr2 : Kd.C k48 w A2 l2.length l2) (hc2 : l2.length ≤ c2) (h : spec_l15One.f k a0 a1_0 a1_1 a1_2 l2 = some r) :
  Calls Tryz.prog 50 #[.int .i64 a0, .agg #[.int .i64 a1_0, .int .i64 a1_1, .int .i64 a1_2], .slice A2 l2.length c2] w fun e w' => e = .returned (.int .i64 r) ∧ Below w.heap.size w w' := by
 have hu29 := Tryz.underlying29
 have HR2 := Aside0.mk hr2
 have HC2 := Aside0.mk hc2
 clear hr2 hc2
 have HB := asd (Below.refl w.heap.size w)
 have H : ((spec_l06Unit.f).bind fun bt384 => ((spec_l15Code.f k a0 a1_0 a1_1 a1_2 l2 (([(⟨(⟨bt384.1, bt384.2.1, bt384.2.2.1, bt384.2.2.2.1⟩ : S46), (⟨bt384.2.2.2.2.1, bt384.2.2.2.2.2⟩ : S38)⟩ : S48)] : List (S48)))).bind fun t393 => (some t393))) = some r := h
 clear h
 obtain ⟨⟨t384, t385, t386, t387, t388, t389⟩, A4, H⟩ := ob H
 try dsimp only at H
 obtain ⟨y390, hy390⟩ : ∃ y_ : List (S48), y_ = (([(⟨(⟨t384, t385, t386, t387⟩ : S46), (⟨t388, t389⟩ : S38)⟩ : S48)] : List (S48))) := ⟨_, rfl⟩
 replace H : ((spec_l15Code.f k a0 a1_0 a1_1 a1_2 l2 y390).bind fun t393 => (some t393)) = some r := by first | (rw [hy390]; with_reducible exact H) | (have H2_ := (Option.bind_some _ _).symm.trans H; rw [hy390]; with_reducible exact H2_) | (have H2_ := (Option.bind_some _ _).symm.trans H; with_reducible exact H2_) | with_reducible exact H | (rw [hy390]; exact H) | exact H
 have Ny390 := Aside0.mk hy390
 clear hy390
 obtain ⟨t393, A5, H⟩ := ob H
 try dsimp only at H
 obtain rfl := Option.some.inj H
 go_enter Tryz.func50, Tryz.ntmps50
 try go_wp2_with (first | ((with_reducible refine gd 4 rfl ?_); refine bx #[.int .i64 a1_0, .int .i64 a1_1, .int .i64 a1_2] 29 ?_; intro gb383 hg w6 BK383 hb; have GE383 := ngw0 hg HB; replace HB := bS0 HB hb; clear hb hg))
 replace BK383 := asd (blk_drew BK383.out)
 replace HB := asd (below_drew1 HB.out)
 refine sh 7 (eb3 BK383) (fun hHeld => ?_)
 generalize w6.drew = w7 at BK383 HB hHeld ⊢
 refine pure_ (i := 0) (N := some 7) (v := ?_) (a' := ?_) (bT 7 1) rfl rfl (by kernel_rfl) (fun _ _ _ h => h) (Or.inl ⟨by rfl, ?_⟩) ?_ ?_
 rotate_left
 ·intro w'
  go_simp
  with_reducible rfl
 rotate_left
 ·simp only [Act.put, sA, sB, sC, i64_w, i32_w]
  rfl
 refine pure_ (i := 2) (N := some 9) (v := ?_) (a' := ?_) (bs 7 5) rfl rfl (by kernel_rfl) (fun _ _ _ h => h) (Or.inl ⟨by rfl, ?_⟩) ?_ ?_
 rotate_left
 ·intro w'
  go_simp
  with_reducible rfl
 rotate_left
 ·simp only [Act.put, sA, sB, sC, i64_w, i32_w]
  rfl
 refine take_ (i := 1) (N := some 8) (v := ?_) (a' := ?_) (bT 7 3) rfl rfl (by kernel_rfl) (fun _ _ _ h => h) (Or.inl ⟨by rfl, ?_⟩) hHeld ?_ ?_
 rotate_left
 ·rintro w' ⟨s0, s1, s2⟩
  go_simp
  with_reducible rfl
 rotate_left
 ·simp only [Act.put, sA, sB, sC, i64_w, i32_w]
  rfl
 refine one_ (i := 3) (N := some 10) (bT 7 4) rfl rfl (by kernel_rfl) (by decide) (fun K hK => ?_)
 refine gs Tryz.func64 #[] ?_
 with_reducible refine (spec_l06Unit.calls _ _ _ _ _ _ _ A4.out).mono ?_
 rintro e w8 ⟨rfl, hb⟩
 refine ⟨_, rfl, ?_⟩
 replace BK383 := bB BK383 hb
 replace HB := bS1 HB GE383 hb
 (try clear hb)
 (try clear hb2)
 (try clear hk)
 (try clear hi)
 refine hK.out _ _ (eb3 BK383).out (fun hHeld => ?_)
 clear hK K
 refine norm_ (a' := ?_) ?_ ?_
 rotate_left
 ·show Act.put _ (some 10) _ = _
  simp only [Act.put, sA, sB, sC, i64_w, i32_w]
  rfl
 refine one_ (i := 4) (N := some 11) (bT 7 5) rfl rfl (by kernel_rfl) (by decide) (fun K hK => ?_)
 refine Kd.R_lit_step k48 _ 48 ?hg (N := 11) ?hd (xs := ([(⟨(⟨t384, t385, t386, t387⟩ : S46), (⟨t388, t389⟩ : S38)⟩ : S48)] : List (S48))) (inner := [.int .i64 t384, .int .i64 t385, .int .i64 t386, .int .i64 t387, .int .i64 t388, .int .i64 t389]) (ok := fun _ => True) (okp := fun _ => True) ?hr ?hp (fun _ hk => hk) trivial (Below.refl _ _) (Nat.le_refl _) (by simp) ?_; (case hd => rfl); (case hg => rfl); (case hr => first | (go_simp; done) | (go_simp; rfl)); (case hp => exact (Reps.c6 (show Kd.M k48 _ _ _ (⟨(⟨t384, t385, t386, t387⟩ : S46), (⟨t388, t389⟩ : S38)⟩ : S48) [.int .i64 t384, .int .i64 t385, .int .i64 t386, .int .i64 t387, .int .i64 t388, .int .i64 t389] from (k48_mkM _ _ _ (⟨(⟨t384, t385, t386, t387⟩ : S46), (⟨t388, t389⟩ : S38)⟩ : S48) )) (Reps.none _ _)))
 intro v391 w9 ho10 hb hg_ hnew_
 clear hg_ hnew_
 (first | rw [← Ny390.out] at ho10 | (simp only [Int.reduceToNat] at ho10; rw [← Ny390.out] at ho10))
 have HO392 := asd (Kd.R_lower ho10 (bsz1 HB GE383))
 replace BK383 := bB BK383 hb
 replace HB := bS1 HB GE383 hb
 clear hb ho10
 obtain ⟨Ao11, co11, eo11⟩ := Kd.R_slice HO392.out
 (first | subst eo11 | (injection eo11 with f1_ f2_ f3_; have f4_ := f1_.symm; have f5_ := f3_.symm; clear f1_ f2_ f3_; subst f4_; subst f5_))
 refine hK.out _ _ (eb3 BK383).out (fun hHeld => ?_)
 clear hK K
 refine norm_ (a' := ?_) ?_ ?_
 rotate_left
 ·show Act.put _ (some 11) _ = _
  simp only [Act.put, sA, sB, sC, i64_w, i32_w]
  rfl
 refine one_ (i := 5) (N := some 12) (bT 7 6) rfl rfl (by kernel_rfl) (by decide) (fun K hK => ?_)
 refine gs Tryz.func56 #[.int .i64 a0, .agg #[.int .i64 a1_0, .int .i64 a1_1, .int .i64 a1_2], .slice A2 l2.length c2, .slice Ao11 y390.length co11] ?_
 with_reducible refine (spec_l15Code.calls _ _ _ _ _ _ _ _ _ _ _ _ _ ?side1 ?side2 ?side3 ?side4 A5.out).mono ?_
 (case side1 => exact ks (Kd.C_below HR2.out HB.out))
 (case side2 => exact HC2.out)
 (case side3 => exact ks (Kd.R_reads' HO392.out).2.2)
 (case side4 => exact (Kd.R_reads' HO392.out).2.1)
 rintro e w12 ⟨rfl, hb⟩
 refine ⟨_, rfl, ?_⟩
 replace HO392 := asd (Kd.R_below (kr HO392) hb)
 replace BK383 := bB BK383 hb
 replace HB := bS1 HB GE383 hb
 (try clear hb)
 (try clear hb2)
 (try clear hk)
 (try clear hi)
 refine hK.out _ _ (eb3 BK383).out (fun hHeld => ?_)
 clear hK K
 refine norm_ (a' := ?_) ?_ ?_
 rotate_left
 ·show Act.put _ (some 12) _ = _
  simp only [Act.put, sA, sB, sC, i64_w, i32_w]
  rfl
 refine pure_ (i := 6) (N := some 6) (v := ?_) (a' := ?_) (bT 7 7) rfl rfl (by kernel_rfl) (fun _ _ _ h => h) (Or.inl ⟨by rfl, ?_⟩) ?_ ?_
 rotate_left
 ·intro w'
  go_simp
  with_reducible rfl
 rotate_left
 ·simp only [Act.put, sA, sB, sC, i64_w, i32_w]
  rfl
 refine done_ (by kernel_rfl) ?_
 try go_wp2
 go_ret
 exact er (bbw1 HB GE383)
end Go.Proofs.YtdodghjnlekgeaaGreat.PA
