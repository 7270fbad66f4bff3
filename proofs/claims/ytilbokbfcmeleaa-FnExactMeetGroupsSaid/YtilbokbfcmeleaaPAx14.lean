/- Walks written by program: each Go function that the law reaches comes to the plain function beside it. -/
import Derived.Test.YtilbokbfcmeleaaPAx0
import Derived.Test.YtilbokbfcmeleaaPAx4
import Derived.Test.YtilbokbfcmeleaaPAx10
import Derived.Test.YtilbokbfcmeleaaPAx13
namespace Go.Proofs.Ytilbokbfcmeleaa.PA
open Go.RowKit Go.Proofs.YtilbokbfcmeleaaW.PrintWords Go.Proofs.YtilbokbfcmeleaaW.PrintLast Go.Proofs.YtilbokbfcmeleaaW.PrintMore
attribute [local go_sem] max2_int min2_int max_two min_two max_three min_three max_four min_four   -- for this text's walks alone
set_option linter.unusedVariables false
set_option linter.unusedSimpArgs false

attribute [local go_sem high] eqA48
/-! ### impl_groupCode: function 22 -/
def impl_groupCode.l0 : Nat → Int → List (List (S48)) → Int → Int → Int → Int → Int → Option (Int)
 | 0, _, _, _, _, _, _, _ => none
 | k + 1, x0, x16, x17, x18, x464000, x464001, x464002 => if x18 < x17 then (if 0 ≤ x18 then (if x18 < (x16.length : Int) then ((impl_isGroup.f k x0 x464000 x464001 x464002 (rd_L9 x16 x18)).bind fun t466 => (if t466 = true then (impl_groupCode.l0 k x0 x16 x17 (wrap64 (x18 + 1)) x464000 x464001 x464002) else (some 2))) else (none)) else (none)) else (some 0)
def impl_groupCode.f (k : Nat) (a0 : Int) (a1_0 : Int) (a1_1 : Int) (a1_2 : Int) (l2 : List (List (S48))) : Option (Int) := (impl_frameCode.f a0 a1_0 a1_1 a1_2).bind fun t464 => (if t464 = 0 then (impl_groupCode.l0 k a0 l2 (l2.length : Int) 0 a1_0 a1_1 a1_2) else (some t464))
set_option maxHeartbeats 8000000 in
set_option maxRecDepth 100000 in
theorem impl_groupCode.calls (k : Nat) (a0 : Int) (a1_0 : Int) (a1_1 : Int) (a1_2 : Int) (A2 : Option Addr) (c2 : Nat) (l2 : List (List (S48))) (r : Int) (w : World) (hr2 : Kd.C (Kd.slice 48 k48) w A2 l2.length l2) (hc2 : l2.length ≤ c2) (h : impl_groupCode.f k a0 a1_0 a1_1 a1_2 l2 = some r) :
  Calls Try.prog 22 #[.int .i64 a0, .agg #[.int .i64 a1_0, .int .i64 a1_1, .int .i64 a1_2], .slice A2 l2.length c2] w fun e w' => e = .returned (.int .i64 r) ∧ Below w.heap.size w w' := by
 have hu29 := Try.underlying29
 have HR2 := Aside0.mk hr2
 have HC2 := Aside0.mk hc2
 clear hr2 hc2
 have HB := asd (Below.refl w.heap.size w)
 have H : ((impl_frameCode.f a0 a1_0 a1_1 a1_2).bind fun t464 => (if t464 = 0 then (impl_groupCode.l0 k a0 l2 (l2.length : Int) 0 a1_0 a1_1 a1_2) else (some t464))) = some r := h
 clear h
 obtain ⟨t464, A4, H⟩ := ob H
 try dsimp only at H
 by_cases c5 : t464 = 0
 rw [if_pos c5] at H
 have c5b0 : (t464 == 0) = true := beq_iff_eq.mpr c5
 have c5b1 : (t464 != 0) = false := bne_eq_false_iff_eq.mpr c5
 clear c5
 have H' := Aside0.mk H
 clear H
 rotate_left
 rw [if_neg c5] at H
 have c5b0 : (t464 == 0) = false := beq_eq_false_iff_ne.mpr c5
 have c5b1 : (t464 != 0) = true := bne_iff_ne.mpr c5
 obtain rfl := Option.some.inj H
 rotate_left
 all_goals
  go_enter Try.func22, Try.ntmps22
  go_wp2_with (first | ((with_reducible refine gd 4 rfl ?_); refine bx #[.int .i64 a1_0, .int .i64 a1_1, .int .i64 a1_2] 29 ?_; intro gb463 hg w6 BK463 hb; have GE463 := ngw0 hg HB; replace HB := bS0 HB hb; clear hb hg; obtain ⟨hcz7_0, hcz7_1, hcz7_2, hfz7_0, hfz7_1, hfz7_2⟩ := bz3 BK463) | ((with_reducible refine gate_callee (f := 50) rfl ?_); refine gl 12 Try.func50 #[.int .i64 a0, .agg #[.int .i64 a1_0, .int .i64 a1_1, .int .i64 a1_2]] ?_; (with_reducible refine (impl_frameCode.calls _ _ _ _ _ _ A4.out).mono ?_); rintro e w8 ⟨rfl, hb⟩; refine ⟨_, rfl, ?_⟩; replace BK463 := bB BK463 hb; replace HB := bS1 HB GE463 hb; (try clear hb)))
 ·go_loopg [18] k (fun kq v18 w' => ∃ (x18_1 : Int), v18 = .int .i64 x18_1 ∧ Aside0 (impl_groupCode.l0 kq a0 l2 (l2.length : Int) x18_1 a1_0 a1_1 a1_2 = some r) ∧ Aside0 (kq ≤ k) ∧ Aside0 (w'.heap[gb463]? = some (.cells #[.int .i64 a1_0, .int .i64 a1_1, .int .i64 a1_2] 29 (0, 0))) ∧ Aside0 (Below w.heap.size w w'))
  case atStart => exact ⟨(0), (by first | rfl | (simp; done) | (simp [*]; done)), H', ⟨Nat.le_refl _⟩, ⟨bkp BK463⟩, ⟨bbw1 HB GE463⟩⟩
  case round =>
   clear H'
   try clear c2
   try clear p2
   try clear c5
   try clear c5b0
   try clear c5b1
   try clear hcz7_0
   try clear hcz7_1
   try clear hcz7_2
   try clear hfz7_0
   try clear hfz7_1
   try clear hfz7_2
   obtain ⟨x18_1, rfl, HA, HK1, BK463, HB⟩ := hrel
   cases gk with
   | zero => exact absurd HA.out (by simp [impl_groupCode.l0])
   | succ k1 =>
    have H := HA.out
    clear HA
    simp only [impl_groupCode.l0] at H
    by_cases c9 : x18_1 < (l2.length : Int)
    rw [if_pos c9] at H
    have c9b0 := decide_eq_true c9
    clear c9
    by_cases c10 : 0 ≤ x18_1
    rw [if_pos c10] at H
    have c10b0 := decide_eq_true c10
    clear c10
    by_cases c11 : x18_1 < (l2.length : Int)
    rw [if_pos c11] at H
    have c11b0 := decide_eq_true c11
    clear c11
    obtain ⟨t466, A12, H⟩ := ob H
    try dsimp only at H
    by_cases c13 : t466 = true
    subst c13
    replace H := ifT H
    have H' := Aside0.mk H
    clear H
    rotate_left
    replace c13 := Bool.eq_false_iff.mpr c13
    subst c13
    replace H := ifF H
    obtain rfl := Option.some.inj H
    rotate_left
    ·rw [if_neg c11] at H
     exact absurd H (by simp)
    ·rw [if_neg c10] at H
     exact absurd H (by simp)
    rw [if_neg c9] at H
    have c9b0 := decide_eq_false c9
    clear c9
    obtain rfl := Option.some.inj H
    rotate_left
    rotate_left 2
    ·go_wp2
     go_ret
     exact er (bbw1 HB GE463)
    all_goals
     have p465 : 0 ≤ (x18_1 : Int) := od
     have q465 : x18_1 < (l2.length : Int) := od
     obtain ⟨ad465, A465_0, c465_0, e465, hx465_0, hl465_0, hi465_0⟩ := at_L9 HR2.out x18_1 p465 q465
     cases e465
     replace hx465_0 := xb HB hx465_0
     have HR465_0 := Aside0.mk hi465_0
     have HC465_0 := Aside0.mk hl465_0
     clear hi465_0 hl465_0
     replace p465 := eq_true p465
     replace q465 := eq_true q465
     obtain ⟨hcz14_0, hcz14_1, hcz14_2, hfz14_0, hfz14_1, hfz14_2⟩ := bz3 BK463
     go_wp2_with (first | ((with_reducible refine gate_callee (f := 51) rfl ?_); refine gl 25 Try.func51 #[.int .i64 a0, .agg #[.int .i64 a1_0, .int .i64 a1_1, .int .i64 a1_2], .slice A465_0 (rd_L9 l2 x18_1).length c465_0] ?_; (with_reducible refine (impl_isGroup.calls _ _ _ _ _ _ _ _ _ _ ?side1 ?side2 A12.out).mono ?_); (case side1 => exact ks (Kd.C_below HR465_0.out HB.out)); (case side2 => exact HC465_0.out); rintro e w15 ⟨rfl, hb⟩; refine ⟨_, rfl, ?_⟩; replace BK463 := bB BK463 hb; replace HB := bS1 HB GE463 hb; (try clear hb)))
    ·go_roundg k1
     case measure => have := HK1.out; omega
     case rel => exact ⟨(wrap64 (x18_1 + 1)), (by first | rfl | (simp; done) | (simp [*]; done)), H', ⟨by have := HK1.out; omega⟩, ⟨bkp BK463⟩, ⟨bbw1 HB GE463⟩⟩
    ·go_ret
     exact er (bbw1 HB GE463)
 ·go_ret
  exact er (bbw1 HB GE463)
/-! ### impl_Motion_52: function 52 -/
def impl_Motion_52.l0 : Nat → List (S48) → Int → Int → Int → Int → Int → Int → Int → Int → Option (Int)
 | 0, _, _, _, _, _, _, _, _, _ => none
 | k + 1, x0, x7, x8, x468000, x468001, x468002, x468003, x468004, x468005 => if x8 < x7 then (if 0 ≤ x8 then (if x8 < (x0.length : Int) then (if ((x468000 == ((rd_T48 x0 x8).f0.f0) && (x468001 == ((rd_T48 x0 x8).f0.f1) && (x468002 == ((rd_T48 x0 x8).f0.f2) && (x468003 == ((rd_T48 x0 x8).f0.f3))))) && ((x468004 == ((rd_T48 x0 x8).f1.f0) && (x468005 == ((rd_T48 x0 x8).f1.f1))))) = true then (some x8) else (impl_Motion_52.l0 k x0 x7 (wrap64 (x8 + 1)) x468000 x468001 x468002 x468003 x468004 x468005)) else (none)) else (none)) else (some (-1))
def impl_Motion_52.f (k : Nat) (l0 : List (S48)) (a1_0 : Int) (a1_1 : Int) (a1_2 : Int) (a1_3 : Int) (a1_4 : Int) (a1_5 : Int) : Option (Int) := impl_Motion_52.l0 k l0 (l0.length : Int) 0 a1_0 a1_1 a1_2 a1_3 a1_4 a1_5
set_option maxHeartbeats 8000000 in
set_option maxRecDepth 100000 in
theorem impl_Motion_52.calls (k : Nat) (A0 : Option Addr) (c0 : Nat) (l0 : List (S48)) (a1_0 : Int) (a1_1 : Int) (a1_2 : Int) (a1_3 : Int) (a1_4 : Int) (a1_5 : Int) (r : Int) (w : World) (hr0 : Kd.C k48 w A0 l0.length l0) (hc0 : l0.length ≤ c0) (h : impl_Motion_52.f k l0 a1_0 a1_1 a1_2 a1_3 a1_4 a1_5 = some r) :
  Calls Try.prog 52 #[.slice A0 l0.length c0, .agg #[.int .i64 a1_0, .int .i64 a1_1, .int .i64 a1_2, .int .i64 a1_3, .int .i64 a1_4, .int .i64 a1_5]] w fun e w' => e = .returned (.int .i64 r) ∧ Below w.heap.size w w' := by
 have hu48 := Try.underlying48
 have HR0 := Aside0.mk hr0
 have HC0 := Aside0.mk hc0
 clear hr0 hc0
 have HB := asd (Below.refl w.heap.size w)
 have H : (impl_Motion_52.l0 k l0 (l0.length : Int) 0 a1_0 a1_1 a1_2 a1_3 a1_4 a1_5) = some r := h
 clear h
 have H' := Aside0.mk H
 clear H
 go_enter Try.func52, Try.ntmps52
 go_wp2_with (first | ((with_reducible refine gd 3 rfl ?_); refine bx #[.int .i64 a1_0, .int .i64 a1_1, .int .i64 a1_2, .int .i64 a1_3, .int .i64 a1_4, .int .i64 a1_5] 48 ?_; intro gb467 hg w3 BK467 hb; have GE467 := ngw0 hg HB; replace HB := bS0 HB hb; clear hb hg))
 repeat (go_quiet (first | ((with_reducible refine gd 3 rfl ?_); refine bx #[.int .i64 a1_0, .int .i64 a1_1, .int .i64 a1_2, .int .i64 a1_3, .int .i64 a1_4, .int .i64 a1_5] 48 ?_; intro gb467 hg w3 BK467 hb; have GE467 := ngw0 hg HB; replace HB := bS0 HB hb; clear hb hg)); try go_wp2_with (first | ((with_reducible refine gd 3 rfl ?_); refine bx #[.int .i64 a1_0, .int .i64 a1_1, .int .i64 a1_2, .int .i64 a1_3, .int .i64 a1_4, .int .i64 a1_5] 48 ?_; intro gb467 hg w3 BK467 hb; have GE467 := ngw0 hg HB; replace HB := bS0 HB hb; clear hb hg)))
 go_loopg [8] k (fun kq v8 w' => ∃ (x8_1 : Int), v8 = .int .i64 x8_1 ∧ Aside0 (impl_Motion_52.l0 kq l0 (l0.length : Int) x8_1 a1_0 a1_1 a1_2 a1_3 a1_4 a1_5 = some r) ∧ Aside0 (kq ≤ k) ∧ Aside0 (w'.heap[gb467]? = some (.cells #[.int .i64 a1_0, .int .i64 a1_1, .int .i64 a1_2, .int .i64 a1_3, .int .i64 a1_4, .int .i64 a1_5] 48 (0, 0))) ∧ Aside0 (Below w.heap.size w w'))
 case atStart => exact ⟨(0), (by first | rfl | (simp; done) | (simp [*]; done)), H', ⟨Nat.le_refl _⟩, ⟨bkp BK467⟩, ⟨bbw1 HB GE467⟩⟩
 case round =>
  clear H'
  try clear p2
  obtain ⟨x8_1, rfl, HA, HK1, BK467, HB⟩ := hrel
  cases gk with
  | zero => exact absurd HA.out (by simp [impl_Motion_52.l0])
  | succ k1 =>
   have H := HA.out
   clear HA
   simp only [impl_Motion_52.l0] at H
   by_cases c4 : x8_1 < (l0.length : Int)
   rw [if_pos c4] at H
   have c4b0 := decide_eq_true c4
   clear c4
   by_cases c5 : 0 ≤ x8_1
   rw [if_pos c5] at H
   have c5b0 := decide_eq_true c5
   clear c5
   by_cases c6 : x8_1 < (l0.length : Int)
   rw [if_pos c6] at H
   have c6b0 := decide_eq_true c6
   clear c6
   by_cases c7 : ((a1_0 == ((rd_T48 l0 x8_1).f0.f0) && (a1_1 == ((rd_T48 l0 x8_1).f0.f1) && (a1_2 == ((rd_T48 l0 x8_1).f0.f2) && (a1_3 == ((rd_T48 l0 x8_1).f0.f3))))) && ((a1_4 == ((rd_T48 l0 x8_1).f1.f0) && (a1_5 == ((rd_T48 l0 x8_1).f1.f1))))) = true
   rw [if_pos c7] at H
   have c7b0 := c7
   clear c7
   obtain rfl := Option.some.inj H
   rotate_left
   rw [if_neg c7] at H
   have c7b0 : ((a1_0 == ((rd_T48 l0 x8_1).f0.f0) && (a1_1 == ((rd_T48 l0 x8_1).f0.f1) && (a1_2 == ((rd_T48 l0 x8_1).f0.f2) && (a1_3 == ((rd_T48 l0 x8_1).f0.f3))))) && ((a1_4 == ((rd_T48 l0 x8_1).f1.f0) && (a1_5 == ((rd_T48 l0 x8_1).f1.f1))))) = false := by simpa using c7
   clear c7
   have H' := Aside0.mk H
   clear H
   rotate_left
   ·rw [if_neg c6] at H
    exact absurd H (by simp)
   ·rw [if_neg c5] at H
    exact absurd H (by simp)
   rw [if_neg c4] at H
   have c4b0 := decide_eq_false c4
   clear c4
   obtain rfl := Option.some.inj H
   rotate_left
   rotate_left 2
   ·go_wp2
    repeat (go_quiet (fail); try go_wp2)
    go_ret
    exact er (bbw1 HB GE467)
   all_goals
    obtain ⟨hcz8_0, hcz8_1, hcz8_2, hcz8_3, hcz8_4, hcz8_5, hfz8_0, hfz8_1, hfz8_2, hfz8_3, hfz8_4, hfz8_5⟩ := bz6 BK467
    obtain ⟨p468, q468, ad468, e468, hx468_0, hx468_1, hx468_2, hx468_3, hx468_4, hx468_5⟩ := at_T48x HR0.out HB x8_1
    cases e468
    go_wp2
    repeat (go_quiet (fail); try go_wp2)
   ·go_ret
    exact er (bbw1 HB GE467)
   ·go_roundg k1
    case measure => have := HK1.out; omega
    case rel => exact ⟨(wrap64 (x8_1 + 1)), (by first | rfl | (simp; done) | (simp [*]; done)), H', ⟨by have := HK1.out; omega⟩, ⟨bkp BK467⟩, ⟨bbw1 HB GE467⟩⟩
/-! ### impl_Motion_23: function 23 -/
def impl_Motion_23.f (k : Nat) (l0 : List (S48)) (a1_0 : Int) (a1_1 : Int) (a1_2 : Int) (a1_3 : Int) (a1_4 : Int) (a1_5 : Int) : Option (Bool) := (impl_Motion_52.f k l0 a1_0 a1_1 a1_2 a1_3 a1_4 a1_5).bind fun t470 => (some (decide (t470 ≥ 0)))
set_option maxHeartbeats 8000000 in
set_option maxRecDepth 100000 in
theorem impl_Motion_23.calls (k : Nat) (A0 : Option Addr) (c0 : Nat) (l0 : List (S48)) (a1_0 : Int) (a1_1 : Int) (a1_2 : Int) (a1_3 : Int) (a1_4 : Int) (a1_5 : Int) (r : Bool) (w : World) (hr0 : Kd.C k48 w A0 l0.length l0) (hc0 : l0.length ≤ c0) (h : impl_Motion_23.f k l0 a1_0 a1_1 a1_2 a1_3 a1_4 a1_5 = some r) :
  Calls Try.prog 23 #[.slice A0 l0.length c0, .agg #[.int .i64 a1_0, .int .i64 a1_1, .int .i64 a1_2, .int .i64 a1_3, .int .i64 a1_4, .int .i64 a1_5]] w fun e w' => e = .returned (.bool r) ∧ Below w.heap.size w w' := by
 have hu48 := Try.underlying48
 have HR0 := Aside0.mk hr0
 have HC0 := Aside0.mk hc0
 clear hr0 hc0
 have HB := asd (Below.refl w.heap.size w)
 have H : ((impl_Motion_52.f k l0 a1_0 a1_1 a1_2 a1_3 a1_4 a1_5).bind fun t470 => (some (decide (t470 ≥ 0)))) = some r := h
 clear h
 obtain ⟨t470, A3, H⟩ := ob H
 try dsimp only at H
 obtain rfl := Option.some.inj H
 go_enter Try.func23, Try.ntmps23
 go_wp2_with (first | ((with_reducible refine gd 3 rfl ?_); refine bx #[.int .i64 a1_0, .int .i64 a1_1, .int .i64 a1_2, .int .i64 a1_3, .int .i64 a1_4, .int .i64 a1_5] 48 ?_; intro gb469 hg w4 BK469 hb; have GE469 := ngw0 hg HB; replace HB := bS0 HB hb; clear hb hg; obtain ⟨hcz5_0, hcz5_1, hcz5_2, hcz5_3, hcz5_4, hcz5_5, hfz5_0, hfz5_1, hfz5_2, hfz5_3, hfz5_4, hfz5_5⟩ := bz6 BK469) | ((with_reducible refine gate_callee (f := 52) rfl ?_); refine gl 7 Try.func52 #[.slice A0 l0.length c0, .agg #[.int .i64 a1_0, .int .i64 a1_1, .int .i64 a1_2, .int .i64 a1_3, .int .i64 a1_4, .int .i64 a1_5]] ?_; (with_reducible refine (impl_Motion_52.calls _ _ _ _ _ _ _ _ _ _ _ _ ?side1 ?side2 A3.out).mono ?_); (case side1 => exact ks (Kd.C_below HR0.out HB.out)); (case side2 => exact HC0.out); rintro e w6 ⟨rfl, hb⟩; refine ⟨_, rfl, ?_⟩; replace BK469 := bB BK469 hb; replace HB := bS1 HB GE469 hb; (try clear hb)))
 go_ret
 exact er (bbw1 HB GE469)
/-! ### impl_MeetGroups: function 10 -/
def impl_MeetGroups.l0 : Nat → List (S48) → List (S48) → List (S48) → Int → Int → Option ((List (S48)) × Int)
 | 0, _, _, _, _, _ => none
 | k + 1, x3, x11, x24, x25, x26 => if x26 < x25 then (if 0 ≤ x26 then (if x26 < (x24.length : Int) then ((impl_Motion_23.f k x3 ((rd_T48 x24 x26).f0.f0) ((rd_T48 x24 x26).f0.f1) ((rd_T48 x24 x26).f0.f2) ((rd_T48 x24 x26).f0.f3) ((rd_T48 x24 x26).f1.f0) ((rd_T48 x24 x26).f1.f1)).bind fun t481 => (if t481 = true then (if x11.length < 2932031007402 then (impl_MeetGroups.l0 k x3 (x11 ++ [(⟨(⟨(rd_T48 x24 x26).f0.f0, (rd_T48 x24 x26).f0.f1, (rd_T48 x24 x26).f0.f2, (rd_T48 x24 x26).f0.f3⟩ : S44), (⟨(rd_T48 x24 x26).f1.f0, (rd_T48 x24 x26).f1.f1⟩ : S46)⟩ : S48)]) x24 x25 (wrap64 (x26 + 1))) else (none)) else (impl_MeetGroups.l0 k x3 x11 x24 x25 (wrap64 (x26 + 1))))) else (none)) else (none)) else (some (x11, 0))
def impl_MeetGroups.f (k : Nat) (a0 : Int) (a1_0 : Int) (a1_1 : Int) (a1_2 : Int) (l2 : List (S48)) (l3 : List (S48)) : Option ((List (S48)) × Int) := (impl_groupCode.f k a0 a1_0 a1_1 a1_2 (([l2, l3] : List (List (S48))))).bind fun t475 => (if t475 = 0 then (impl_MeetGroups.l0 k l3 (([] : List (S48))) l2 (l2.length : Int) 0) else (some (([] : List (S48)), t475)))
set_option maxHeartbeats 8000000 in
set_option maxRecDepth 100000 in
theorem impl_MeetGroups.calls (k : Nat) (a0 : Int) (a1_0 : Int) (a1_1 : Int) (a1_2 : Int) (P2_ : Nat → Prop) (A2 : Option Addr) (c2 : Nat) (l2 : List (S48)) (P3_ : Nat → Prop) (A3 : Option Addr) (c3 : Nat) (l3 : List (S48)) (r1 : List (S48)) (r2 : Int) (w : World) (hs2 : Kd.V k48 48 w w.heap.size (fun k_ => P2_ k_) (.slice A2 l2.length c2) l2) (hs3 : Kd.V k48 48 w w.heap.size (fun k_ => P3_ k_) (.slice A3 l3.length c3) l3) (h : impl_MeetGroups.f k a0 a1_0 a1_1 a1_2 l2 l3 = some (r1, r2)) :
  Calls Try.prog 10 #[.int .i64 a0, .agg #[.int .i64 a1_0, .int .i64 a1_1, .int .i64 a1_2], .slice A2 l2.length c2, .slice A3 l3.length c3] w fun e w' => ∃ v0_ : Value, e = .returned (.tuple #[v0_, .int .i64 r2]) ∧ Kd.R k48 48 w' w.heap.size (fun k_ => (w.heap.size ≤ k_)) v0_ r1 ∧ Below w.heap.size w w' := by
 have hu29 := Try.underlying29
 have hu48 := Try.underlying48
 have HO2 := asd (show Kd.V k48 48 w w.heap.size (fun k_ => ((P2_ k_ ∨ P3_ k_) ∨ w.heap.size ≤ k_)) (.slice A2 l2.length c2) l2 from Kd.V_mono hs2 (fun k_ hk => .inl (.inl hk)))
 have HO3 := asd (show Kd.V k48 48 w w.heap.size (fun k_ => ((P2_ k_ ∨ P3_ k_) ∨ w.heap.size ≤ k_)) (.slice A3 l3.length c3) l3 from Kd.V_mono hs3 (fun k_ hk => .inl (.inr hk)))
 have HB := asd (Below.refl w.heap.size w)
 have H : ((impl_groupCode.f k a0 a1_0 a1_1 a1_2 (([l2, l3] : List (List (S48))))).bind fun t475 => (if t475 = 0 then (impl_MeetGroups.l0 k l3 (([] : List (S48))) l2 (l2.length : Int) 0) else (some (([] : List (S48)), t475)))) = some (r1, r2) := h
 clear h
 obtain ⟨y472, hy472⟩ : ∃ y_ : List (List (S48)), y_ = (([l2, l3] : List (List (S48)))) := ⟨_, rfl⟩
 replace H : ((impl_groupCode.f k a0 a1_0 a1_1 a1_2 y472).bind fun t475 => (if t475 = 0 then (impl_MeetGroups.l0 k l3 (([] : List (S48))) l2 (l2.length : Int) 0) else (some (([] : List (S48)), t475)))) = some (r1, r2) := by first | (rw [hy472]; with_reducible exact H) | (have H2_ := (Option.bind_some _ _).symm.trans H; rw [hy472]; with_reducible exact H2_) | (have H2_ := (Option.bind_some _ _).symm.trans H; with_reducible exact H2_) | with_reducible exact H | (rw [hy472]; exact H) | exact H
 have Ny472 := Aside0.mk hy472
 clear hy472
 obtain ⟨t475, A5, H⟩ := ob H
 try dsimp only at H
 by_cases c6 : t475 = 0
 rw [if_pos c6] at H
 have c6b0 : (t475 == 0) = true := beq_iff_eq.mpr c6
 have c6b1 : (t475 != 0) = false := bne_eq_false_iff_eq.mpr c6
 clear c6
 obtain ⟨y476, hy476⟩ : ∃ y_ : List (S48), y_ = (([] : List (S48))) := ⟨_, rfl⟩
 replace H : (impl_MeetGroups.l0 k l3 y476 l2 (l2.length : Int) 0) = some (r1, r2) := by first | (rw [hy476]; with_reducible exact H) | (have H2_ := (Option.bind_some _ _).symm.trans H; rw [hy476]; with_reducible exact H2_) | (have H2_ := (Option.bind_some _ _).symm.trans H; with_reducible exact H2_) | with_reducible exact H | (rw [hy476]; exact H) | exact H
 have Ny476 := Aside0.mk hy476
 clear hy476
 have H' := Aside0.mk H
 clear H
 rotate_left
 rw [if_neg c6] at H
 have c6b0 : (t475 == 0) = false := beq_eq_false_iff_ne.mpr c6
 have c6b1 : (t475 != 0) = true := bne_iff_ne.mpr c6
 rotate_left
 rotate_left
 simp only [Option.some.injEq, Prod.mk.injEq] at H
 obtain ⟨rfl, rfl⟩ := H
 rotate_left
 all_goals
  go_enter Try.func10, Try.ntmps10
  go_wp2_with (first | ((with_reducible refine gd 5 rfl ?_); refine bx #[.int .i64 a1_0, .int .i64 a1_1, .int .i64 a1_2] 29 ?_; intro gb471 hg w7 BK471 hb; replace HO2 := asd (Kd.V_below (Kd.V_elderB (by (with_reducible repeat (first | apply Kd.V_alloc | apply Kd.V_drewN | apply Kd.V_drew)); exact HO2.out) gb471 (Nat.le_of_eq hg.symm)) hb); replace HO3 := asd (Kd.V_below (Kd.V_elderB (by (with_reducible repeat (first | apply Kd.V_alloc | apply Kd.V_drewN | apply Kd.V_drew)); exact HO3.out) gb471 (Nat.le_of_eq hg.symm)) hb); have GE471 := ngw0 hg HB; replace HB := bS0 HB hb; clear hb hg; obtain ⟨hcz8_0, hcz8_1, hcz8_2, hfz8_0, hfz8_1, hfz8_2⟩ := bz3 BK471) | ((with_reducible refine gd 18 rfl ?_); refine Kd.N_lit (Kd.slice 48 k48) _ 26 ?hg (N' := 18) ?hd (xs := ([l2, l3] : List (List (S48)))) (inner := [.slice A2 l2.length c2, .slice A3 l3.length c3]) (ok := (fun k_ => ((P2_ k_ ∨ P3_ k_) ∨ w.heap.size ≤ k_) ∧ k_ ≠ gb471)) (okp := (fun k_ => ((P2_ k_ ∨ P3_ k_) ∨ w.heap.size ≤ k_) ∧ k_ ≠ gb471)) ?hr ?hp (fun _ hk => hk) ((show ∀ k_, w7.heap.size ≤ k_ → (fun k_ => ((P2_ k_ ∨ P3_ k_) ∨ w.heap.size ≤ k_) ∧ k_ ≠ gb471) k_ from fun k_ hk => ⟨(.inr (Nat.le_trans (bsz1 HB GE471) hk)), Kd.freshB (g := gb471) (o := .cells #[.int .i64 a1_0, .int .i64 a1_1, .int .i64 a1_2] 29 (0, 0)) (bkp BK471) k_ hk⟩) _ (Nat.le_refl _)) (Below.refl _ _) (Nat.le_refl _) (by simp) ?_; (case hd => rfl); (case hg => rfl); (case hr => first | (go_simp; done) | (go_simp; rfl)); (case hp => exact (Reps.one (show Kd.FK (Kd.slice 48 k48) _ _ l2 [.slice A2 l2.length c2] from (Kd.FK_slice_mk (Kd.V_reads' (Kd.V_mono (ok' := (fun k_ => ((P2_ k_ ∨ P3_ k_) ∨ w.heap.size ≤ k_) ∧ k_ ≠ gb471)) (HO2.out) (fun k_ hk => ⟨hk.1, hk.2⟩))).2.1 (Kd.V_F (Kd.V_mono (ok' := (fun k_ => ((P2_ k_ ∨ P3_ k_) ∨ w.heap.size ≤ k_) ∧ k_ ≠ gb471)) (HO2.out) (fun k_ hk => ⟨hk.1, hk.2⟩))))) (Reps.one (show Kd.FK (Kd.slice 48 k48) _ _ l3 [.slice A3 l3.length c3] from (Kd.FK_slice_mk (Kd.V_reads' (Kd.V_mono (ok' := (fun k_ => ((P2_ k_ ∨ P3_ k_) ∨ w.heap.size ≤ k_) ∧ k_ ≠ gb471)) (HO3.out) (fun k_ hk => ⟨hk.1, hk.2⟩))).2.1 (Kd.V_F (Kd.V_mono (ok' := (fun k_ => ((P2_ k_ ∨ P3_ k_) ∨ w.heap.size ≤ k_) ∧ k_ ≠ gb471)) (HO3.out) (fun k_ hk => ⟨hk.1, hk.2⟩))))) (Reps.none _ _)))); intro v473 w9 ho10 hb hg_ hnew_; clear hg_ hnew_; (first | rw [← Ny472.out] at ho10 | (simp only [Int.reduceToNat] at ho10; rw [← Ny472.out] at ho10)); replace HO2 := asd (Kd.V_elder' (by (with_reducible repeat (first | apply Kd.V_alloc | apply Kd.V_drewN | apply Kd.V_drew)); exact HO2.out) (Kd.N_base ho10) hb); replace HO3 := asd (Kd.V_elder' (by (with_reducible repeat (first | apply Kd.V_alloc | apply Kd.V_drewN | apply Kd.V_drew)); exact HO3.out) (Kd.N_base ho10) hb); have HO474 := asd (Kd.N_lower ho10 (bsz1 HB GE471)); replace BK471 := bB BK471 hb; replace HB := bS1 HB GE471 hb; clear hb ho10; obtain ⟨Ao11, co11, eo11⟩ := Kd.N_slice HO474.out; subst eo11) | ((with_reducible refine gate_callee (f := 22) rfl ?_); refine gl 19 Try.func22 #[.int .i64 a0, .agg #[.int .i64 a1_0, .int .i64 a1_1, .int .i64 a1_2], .slice Ao11 y472.length co11] ?_; (with_reducible refine (impl_groupCode.calls _ _ _ _ _ _ _ _ _ _ ?side1 ?side2 A5.out).mono ?_); (case side1 => exact ks (Kd.N_reads' HO474.out).2.2); (case side2 => exact (Kd.N_reads' HO474.out).2.1); rintro e w12 ⟨rfl, hb⟩; refine ⟨_, rfl, ?_⟩; replace HO2 := asd (Kd.V_below (by (with_reducible repeat (first | apply Kd.V_alloc | apply Kd.V_drewN | apply Kd.V_drew)); exact HO2.out) hb); replace HO3 := asd (Kd.V_below (by (with_reducible repeat (first | apply Kd.V_alloc | apply Kd.V_drewN | apply Kd.V_drew)); exact HO3.out) hb); replace HO474 := asd (Kd.N_below (by (with_reducible repeat (first | apply Kd.N_alloc | apply Kd.N_drewN | apply Kd.N_drew)); exact HO474.out) hb); replace BK471 := bB BK471 hb; replace HB := bS1 HB GE471 hb; (try clear hb)) | ((with_reducible refine gd 23 rfl ?_); refine Kd.R_lit k48 _ 48 ?hg (N := 23) ?hd (xs := ([] : List (S48))) (inner := []) (ok := fun _ => True) (okp := fun _ => True) ?hr ?hp (fun _ hk => hk) trivial (Below.refl _ _) (Nat.le_refl _) (by simp) ?_; (case hd => rfl); (case hg => rfl); (case hr => first | (go_simp; done) | (go_simp; rfl)); (case hp => exact (Reps.none _ _)); intro v477 w13 ho14 hb hg_ hnew_; clear hg_ hnew_; (first | rw [← Ny476.out] at ho14 | (simp only [Int.reduceToNat] at ho14; rw [← Ny476.out] at ho14)); replace HO2 := asd (Kd.V_elder' (by (with_reducible repeat (first | apply Kd.V_alloc | apply Kd.V_drewN | apply Kd.V_drew)); exact HO2.out) (Kd.R_base ho14) hb); replace HO3 := asd (Kd.V_elder' (by (with_reducible repeat (first | apply Kd.V_alloc | apply Kd.V_drewN | apply Kd.V_drew)); exact HO3.out) (Kd.R_base ho14) hb); replace HO474 := asd (Kd.N_elder' (by (with_reducible repeat (first | apply Kd.N_alloc | apply Kd.N_drewN | apply Kd.N_drew)); exact HO474.out) (Kd.R_base ho14) hb); have HO478 := asd (Kd.R_lower (Kd.R_newM (M := fun k_ => (w.heap.size ≤ k_)) ho14 (bsz1 HB GE471) (fun k_ h_ => h_)) (bsz1 HB GE471)); replace BK471 := bB BK471 hb; replace HB := bS1 HB GE471 hb; clear hb ho14))
 ·go_loopg [11, 26] k (fun kq v11 v26 w' => ∃ (x11_1 : List (S48)) (x26_1 : Int), v26 = .int .i64 x26_1 ∧ Aside0 (impl_MeetGroups.l0 kq l3 x11_1 l2 (l2.length : Int) x26_1 = some (r1, r2)) ∧ Aside0 (kq ≤ k) ∧ Aside0 (Kd.V k48 48 w' w.heap.size (fun k_ => ((P2_ k_ ∨ P3_ k_) ∨ w.heap.size ≤ k_) ∧ some k_ ≠ (v11 : Value).ownBlock ∧ k_ ≠ gb471) (.slice A3 l3.length c3) l3) ∧ Aside0 (Kd.R k48 48 w' w.heap.size (fun k_ => (w.heap.size ≤ k_)) v11 x11_1) ∧ Aside0 (Kd.V k48 48 w' w.heap.size (fun k_ => ((P2_ k_ ∨ P3_ k_) ∨ w.heap.size ≤ k_) ∧ some k_ ≠ (v11 : Value).ownBlock ∧ k_ ≠ gb471) (.slice A2 l2.length c2) l2) ∧ Aside0 (w'.heap[gb471]? = some (.cells #[.int .i64 a1_0, .int .i64 a1_1, .int .i64 a1_2] 29 (0, 0))) ∧ Aside0 (Below w.heap.size w w'))
  case atStart => exact ⟨(y476), (0), (by first | rfl | (simp; done) | (simp [*]; done)), H', ⟨Nat.le_refl _⟩, ⟨by (with_reducible repeat (first | apply Kd.V_alloc | apply Kd.V_drewN | apply Kd.V_drew)); exact Kd.V_mono HO3.out (fun _ hk => ⟨hk.1.1.1, ⟨hk.2, hk.1.1.2⟩⟩)⟩, ⟨by (with_reducible repeat (first | apply Kd.R_alloc | apply Kd.R_drewN | apply Kd.R_drew)); exact Kd.R_mono HO478.out (fun _ hk => hk.1)⟩, ⟨by (with_reducible repeat (first | apply Kd.V_alloc | apply Kd.V_drewN | apply Kd.V_drew)); exact Kd.V_mono HO2.out (fun _ hk => ⟨hk.1.1.1, ⟨hk.2, hk.1.1.2⟩⟩)⟩, ⟨bkp BK471⟩, ⟨bbw1 HB GE471⟩⟩
  case round =>
   clear H'
   try clear c1
   try clear c2
   try clear p2
   try clear c3
   try clear c6
   try clear c6b0
   try clear c6b1
   try clear c10
   try clear hcz8_0
   try clear hcz8_1
   try clear hcz8_2
   try clear hfz8_0
   try clear hfz8_1
   try clear hfz8_2
   obtain ⟨x11_1, x26_1, rfl, HA, HK1, HO_3, HO_11, HO_24, BK471, HB⟩ := hrel
   cases gk with
   | zero => exact absurd HA.out (by simp [impl_MeetGroups.l0])
   | succ k1 =>
    have H := HA.out
    clear HA
    simp only [impl_MeetGroups.l0] at H
    by_cases c15 : x26_1 < (l2.length : Int)
    rw [if_pos c15] at H
    have c15b0 := decide_eq_true c15
    clear c15
    by_cases c16 : 0 ≤ x26_1
    rw [if_pos c16] at H
    have c16b0 := decide_eq_true c16
    clear c16
    by_cases c17 : x26_1 < (l2.length : Int)
    rw [if_pos c17] at H
    have c17b0 := decide_eq_true c17
    clear c17
    obtain ⟨t481, A18, H⟩ := ob H
    try dsimp only at H
    by_cases c19 : t481 = true
    subst c19
    replace H := ifT H
    by_cases c20 : x11_1.length < 2932031007402
    rw [if_pos c20] at H
    have LMc20 := Aside0.mk c20
    clear c20
    obtain ⟨y482, hy482⟩ : ∃ y_ : List (S48), y_ = (x11_1 ++ [(⟨(⟨(rd_T48 l2 x26_1).f0.f0, (rd_T48 l2 x26_1).f0.f1, (rd_T48 l2 x26_1).f0.f2, (rd_T48 l2 x26_1).f0.f3⟩ : S44), (⟨(rd_T48 l2 x26_1).f1.f0, (rd_T48 l2 x26_1).f1.f1⟩ : S46)⟩ : S48)]) := ⟨_, rfl⟩
    replace H : (impl_MeetGroups.l0 k1 l3 y482 l2 (l2.length : Int) (wrap64 (x26_1 + 1))) = some (r1, r2) := by first | (rw [hy482]; with_reducible exact H) | (have H2_ := (Option.bind_some _ _).symm.trans H; rw [hy482]; with_reducible exact H2_) | (have H2_ := (Option.bind_some _ _).symm.trans H; with_reducible exact H2_) | with_reducible exact H | (rw [hy482]; exact H) | exact H
    have Ny482 := Aside0.mk hy482
    clear hy482
    have H' := Aside0.mk H
    clear H
    rotate_left
    ·rw [if_neg c20] at H
     exact absurd H (by simp)
    replace c19 := Bool.eq_false_iff.mpr c19
    subst c19
    replace H := ifF H
    have H' := Aside0.mk H
    clear H
    rotate_left
    ·rw [if_neg c17] at H
     exact absurd H (by simp)
    ·rw [if_neg c16] at H
     exact absurd H (by simp)
    rw [if_neg c15] at H
    have c15b0 := decide_eq_false c15
    clear c15
    rotate_left
    rotate_left 2
    ·simp only [Option.some.injEq, Prod.mk.injEq] at H
     obtain ⟨rfl, rfl⟩ := H
     go_wp2
     go_ret2
     exact ⟨_, by first | rfl | (simp [errW_none, errW_some] <;> rfl) | (simp [*, errW_none, errW_some] <;> rfl), by (with_reducible repeat (first | apply Kd.R_alloc | apply Kd.R_drewN | apply Kd.R_drew)); exact HO_11.out, bbw1 HB GE471⟩
    all_goals
     have p479 : 0 ≤ (x26_1 : Int) := od
     have q479 : x26_1 < (l2.length : Int) := od
     obtain ⟨ad479, e479, hx479_0, hx479_1, hx479_2, hx479_3, hx479_4, hx479_5⟩ := at_T48 (Kd.V_reads' HO_24.out).2.2 x26_1 p479 q479
     cases e479
     replace p479 := eq_true p479
     replace q479 := eq_true q479
    ·go_wp2_with (first | ((with_reducible refine gd 13 rfl ?_); refine bx #[.int .i64 0, .int .i64 0, .int .i64 0, .int .i64 0, .int .i64 0, .int .i64 0] 48 ?_; intro gb480 hg w21 BK480 hb; replace HO_3 := asd (Kd.V_below (Kd.V_elderB (by (with_reducible repeat (first | apply Kd.V_alloc | apply Kd.V_drewN | apply Kd.V_drew)); exact HO_3.out) gb480 (Nat.le_of_eq hg.symm)) hb); replace HO_11 := asd (Kd.R_below (Kd.R_elderB (kr HO_11) gb480 (Nat.le_of_eq hg.symm)) hb); replace HO_24 := asd (Kd.V_below (Kd.V_elderB (by (with_reducible repeat (first | apply Kd.V_alloc | apply Kd.V_drewN | apply Kd.V_drew)); exact HO_24.out) gb480 (Nat.le_of_eq hg.symm)) hb); have GE480 := ngw1 hg HB GE471; replace HB := bS1 HB GE471 hb; have NB471_480 := nlt hg BK471; have NB480_471 := nsy (nlt hg BK471); replace BK471 := bB BK471 hb; clear hb hg; have hnb22 := NB480_471.out; have hnc22 := NB471_480.out; obtain ⟨hcz23_0, hcz23_1, hcz23_2, hcz23_3, hcz23_4, hcz23_5, hfz23_0, hfz23_1, hfz23_2, hfz23_3, hfz23_4, hfz23_5⟩ := bz6 BK480) | ((with_reducible refine gate_callee (f := 23) rfl ?_); refine gl 32 Try.func23 #[.slice A3 l3.length c3, .agg #[.int .i64 ((rd_T48 l2 x26_1).f0.f0), .int .i64 ((rd_T48 l2 x26_1).f0.f1), .int .i64 ((rd_T48 l2 x26_1).f0.f2), .int .i64 ((rd_T48 l2 x26_1).f0.f3), .int .i64 ((rd_T48 l2 x26_1).f1.f0), .int .i64 ((rd_T48 l2 x26_1).f1.f1)]] ?_; (with_reducible refine (impl_Motion_23.calls _ _ _ _ _ _ _ _ _ _ _ _ ?side1 ?side2 A18.out).mono ?_); (case side1 => refine (Kd.V_reads' (e := 48) (base := w.heap.size) (ok := fun k_ => ((((P2_ k_ ∨ P3_ k_) ∨ w.heap.size ≤ k_) ∧ (some k_ ≠ (u11 : Value).ownBlock ∧ k_ ≠ gb471)) ∧ k_ ≠ gb480)) (n := l3.length) (c := c3) ?_).2.2; exact (by (with_reducible repeat (first | apply Kd.V_alloc | apply Kd.V_drewN | apply Kd.V_drew)); exact (Kd.V_mono (Kd.V_far (p := ⟨gb480, 5, none⟩) (Kd.V_far (p := ⟨gb480, 4, none⟩) (Kd.V_far (p := ⟨gb480, 3, none⟩) (Kd.V_far (p := ⟨gb480, 2, none⟩) (Kd.V_far (p := ⟨gb480, 1, none⟩) (Kd.V_far (p := ⟨gb480, 0, none⟩) (Kd.V_mono HO_3.out (fun k_ hk => (⟨hk, hk.2⟩ : _ ∧ k_ ≠ gb480))) (fun _ hk => hk.2) (.int .i64 ((rd_T48 l2 x26_1).f0.f0))) (fun _ hk => hk.2) (.int .i64 ((rd_T48 l2 x26_1).f0.f1))) (fun _ hk => hk.2) (.int .i64 ((rd_T48 l2 x26_1).f0.f2))) (fun _ hk => hk.2) (.int .i64 ((rd_T48 l2 x26_1).f0.f3))) (fun _ hk => hk.2) (.int .i64 ((rd_T48 l2 x26_1).f1.f0))) (fun _ hk => hk.2) (.int .i64 ((rd_T48 l2 x26_1).f1.f1))) (fun _ h_ => h_.1)))); (case side2 => exact (Kd.V_reads' HO_3.out).2.1); rintro e w24 ⟨rfl, hb⟩; refine ⟨_, rfl, ?_⟩; replace HO_3 := asd (Kd.V_below (by (with_reducible repeat (first | apply Kd.V_alloc | apply Kd.V_drewN | apply Kd.V_drew)); exact (Kd.V_mono (Kd.V_far (p := ⟨gb480, 5, none⟩) (Kd.V_far (p := ⟨gb480, 4, none⟩) (Kd.V_far (p := ⟨gb480, 3, none⟩) (Kd.V_far (p := ⟨gb480, 2, none⟩) (Kd.V_far (p := ⟨gb480, 1, none⟩) (Kd.V_far (p := ⟨gb480, 0, none⟩) (Kd.V_mono HO_3.out (fun k_ hk => (⟨hk, hk.2⟩ : _ ∧ k_ ≠ gb480))) (fun _ hk => hk.2) (.int .i64 ((rd_T48 l2 x26_1).f0.f0))) (fun _ hk => hk.2) (.int .i64 ((rd_T48 l2 x26_1).f0.f1))) (fun _ hk => hk.2) (.int .i64 ((rd_T48 l2 x26_1).f0.f2))) (fun _ hk => hk.2) (.int .i64 ((rd_T48 l2 x26_1).f0.f3))) (fun _ hk => hk.2) (.int .i64 ((rd_T48 l2 x26_1).f1.f0))) (fun _ hk => hk.2) (.int .i64 ((rd_T48 l2 x26_1).f1.f1))) (fun _ h_ => h_.1))) hb); replace HO_11 := asd (Kd.R_below (by (with_reducible repeat (first | apply Kd.R_alloc | apply Kd.R_drewN | apply Kd.R_drew)); exact (Kd.R_mono (rw6 (Kd.R_mono HO_11.out (fun k_ hk => (⟨hk, hk.2⟩ : _ ∧ k_ ≠ gb480)))) (fun _ h_ => h_.1))) hb); replace HO_24 := asd (Kd.V_below (by (with_reducible repeat (first | apply Kd.V_alloc | apply Kd.V_drewN | apply Kd.V_drew)); exact (Kd.V_mono (Kd.V_far (p := ⟨gb480, 5, none⟩) (Kd.V_far (p := ⟨gb480, 4, none⟩) (Kd.V_far (p := ⟨gb480, 3, none⟩) (Kd.V_far (p := ⟨gb480, 2, none⟩) (Kd.V_far (p := ⟨gb480, 1, none⟩) (Kd.V_far (p := ⟨gb480, 0, none⟩) (Kd.V_mono HO_24.out (fun k_ hk => (⟨hk, hk.2⟩ : _ ∧ k_ ≠ gb480))) (fun _ hk => hk.2) (.int .i64 ((rd_T48 l2 x26_1).f0.f0))) (fun _ hk => hk.2) (.int .i64 ((rd_T48 l2 x26_1).f0.f1))) (fun _ hk => hk.2) (.int .i64 ((rd_T48 l2 x26_1).f0.f2))) (fun _ hk => hk.2) (.int .i64 ((rd_T48 l2 x26_1).f0.f3))) (fun _ hk => hk.2) (.int .i64 ((rd_T48 l2 x26_1).f1.f0))) (fun _ hk => hk.2) (.int .i64 ((rd_T48 l2 x26_1).f1.f1))) (fun _ h_ => h_.1))) hb); replace BK471 := asd (blk_below (g := gb471) (o := .cells #[.int .i64 a1_0, .int .i64 a1_1, .int .i64 a1_2] 29 (0, 0)) (bq1 BK471 NB471_480) hb); replace BK480 := asd (blk_below (g := gb480) (o := .cells #[.int .i64 ((rd_T48 l2 x26_1).f0.f0), .int .i64 ((rd_T48 l2 x26_1).f0.f1), .int .i64 ((rd_T48 l2 x26_1).f0.f2), .int .i64 ((rd_T48 l2 x26_1).f0.f3), .int .i64 ((rd_T48 l2 x26_1).f1.f0), .int .i64 ((rd_T48 l2 x26_1).f1.f1)] 48 (0, 0)) (bq0 BK480) hb); replace HB := bS2 HB GE471 GE480 hb; (try clear hb); obtain ⟨hcz25_0, hcz25_1, hcz25_2, hcz25_3, hcz25_4, hcz25_5, hfz25_0, hfz25_1, hfz25_2, hfz25_3, hfz25_4, hfz25_5⟩ := bz6 BK480) | ((with_reducible refine gate_builtin (b := .append) (xs := #[.tmp 33, .tmp 35]) rfl ?_); at_builtin; refine Kd.R_append k48 (w0 := w) w.heap.size rfl (.tmp 33) (.tmp 35) 26 48 (.agg #[(.int .i64 0), (.int .i64 0), (.int .i64 0), (.int .i64 0), (.int .i64 0), (.int .i64 0)]) 48 rfl Try.underlying26 info48 rfl (by decide) (by omega) u11 x11_1 (⟨(⟨(rd_T48 l2 x26_1).f0.f0, (rd_T48 l2 x26_1).f0.f1, (rd_T48 l2 x26_1).f0.f2, (rd_T48 l2 x26_1).f0.f3⟩ : S44), (⟨(rd_T48 l2 x26_1).f1.f0, (rd_T48 l2 x26_1).f1.f1⟩ : S46)⟩ : S48) [.int .i64 ((rd_T48 l2 x26_1).f0.f0), .int .i64 ((rd_T48 l2 x26_1).f0.f1), .int .i64 ((rd_T48 l2 x26_1).f0.f2), .int .i64 ((rd_T48 l2 x26_1).f0.f3), .int .i64 ((rd_T48 l2 x26_1).f1.f0), .int .i64 ((rd_T48 l2 x26_1).f1.f1)] (fun k_ => (w.heap.size ≤ k_) ∧ k_ ≠ gb480) (fun _ => False) rfl rfl ?aP (fun _ hk => hk.elim) ?aF ?aO ?aB ?aS ?aL ?_; (case aP => exact k48_mkM _ _ _ (⟨(⟨(rd_T48 l2 x26_1).f0.f0, (rd_T48 l2 x26_1).f0.f1, (rd_T48 l2 x26_1).f0.f2, (rd_T48 l2 x26_1).f0.f3⟩ : S44), (⟨(rd_T48 l2 x26_1).f1.f0, (rd_T48 l2 x26_1).f1.f1⟩ : S46)⟩ : S48)); (case aB => exact (bbw2 HB GE471 GE480)); (case aF => exact (fun k_ hk => ⟨(Nat.le_trans (bsz2 HB GE471 GE480) hk), Kd.freshB (g := gb480) (o := .cells #[.int .i64 ((rd_T48 l2 x26_1).f0.f0), .int .i64 ((rd_T48 l2 x26_1).f0.f1), .int .i64 ((rd_T48 l2 x26_1).f0.f2), .int .i64 ((rd_T48 l2 x26_1).f0.f3), .int .i64 ((rd_T48 l2 x26_1).f1.f0), .int .i64 ((rd_T48 l2 x26_1).f1.f1)] 48 (0, 0)) (bkp BK480) k_ hk⟩)); (case aO => exact (kr HO_11)); (case aS => exact (bsz2 HB GE471 GE480)); (case aL => have := LMc20.out; omega); intro v483 w26 ho hb hg hat; rw [← Ny482.out] at ho; have n0_ := asd (Kd.V_afterv (ok := (fun k_ => ((P2_ k_ ∨ P3_ k_) ∨ w.heap.size ≤ k_) ∧ k_ ≠ gb471 ∧ k_ ≠ gb480)) (by (with_reducible repeat (first | apply Kd.V_alloc | apply Kd.V_drewN | apply Kd.V_drew)); exact Kd.V_mono HO_3.out (fun _ hk => ⟨⟨hk.1.1, ⟨hk.1.2.2, hk.2⟩⟩, hk.1.2.1⟩)) hg hat); have n1_ := asd (Kd.V_afterv (ok := (fun k_ => ((P2_ k_ ∨ P3_ k_) ∨ w.heap.size ≤ k_) ∧ k_ ≠ gb471 ∧ k_ ≠ gb480)) (by (with_reducible repeat (first | apply Kd.V_alloc | apply Kd.V_drewN | apply Kd.V_drew)); exact Kd.V_mono HO_24.out (fun _ hk => ⟨⟨hk.1.1, ⟨hk.1.2.2, hk.2⟩⟩, hk.1.2.1⟩)) hg hat); have n2_ := asd (blk_grown (g := gb471) (o := .cells #[.int .i64 a1_0, .int .i64 a1_1, .int .i64 a1_2] 29 (0, 0)) (bkp BK471) hg (Kd.R_ne HO_11.out BK471.out (by decide))); have n3_ := asd (blk_grown (g := gb480) (o := .cells #[.int .i64 ((rd_T48 l2 x26_1).f0.f0), .int .i64 ((rd_T48 l2 x26_1).f0.f1), .int .i64 ((rd_T48 l2 x26_1).f0.f2), .int .i64 ((rd_T48 l2 x26_1).f0.f3), .int .i64 ((rd_T48 l2 x26_1).f1.f0), .int .i64 ((rd_T48 l2 x26_1).f1.f1)] 48 (0, 0)) (bkp BK480) hg (Kd.R_away HO_11.out (fun _ hk => hk.2))); have n4_ := asd (hb); have n5_ := asd (ho); clear HO_3; clear HO_24; clear BK471; clear BK480; clear HB; clear HO_11; have HO_3 := n0_; have HO_24 := n1_; have BK471 := n2_; have BK480 := n3_; have HB := n4_; have HO484 := n5_; clear n0_ n1_ n2_ n3_ n4_ n5_; clear ho hb hg hat))
     go_roundg k1
     case measure => have := HK1.out; omega
     case rel => exact ⟨(y482), (wrap64 (x26_1 + 1)), (by first | rfl | (simp; done) | (simp [*]; done)), H', ⟨by have := HK1.out; omega⟩, ⟨by (with_reducible repeat (first | apply Kd.V_alloc | apply Kd.V_drewN | apply Kd.V_drew)); exact Kd.V_mono HO_3.out (fun _ hk => ⟨hk.1.1, ⟨hk.2, hk.1.2.1⟩⟩)⟩, ⟨by (with_reducible repeat (first | apply Kd.R_alloc | apply Kd.R_drewN | apply Kd.R_drew)); exact Kd.R_mono HO484.out (fun _ hk => hk.1)⟩, ⟨by (with_reducible repeat (first | apply Kd.V_alloc | apply Kd.V_drewN | apply Kd.V_drew)); exact Kd.V_mono HO_24.out (fun _ hk => ⟨hk.1.1, ⟨hk.2, hk.1.2.1⟩⟩)⟩, ⟨bkp BK471⟩, ⟨bbw2 HB GE471 GE480⟩⟩
    ·go_wp2_with (first | ((with_reducible refine gd 13 rfl ?_); refine bx #[.int .i64 0, .int .i64 0, .int .i64 0, .int .i64 0, .int .i64 0, .int .i64 0] 48 ?_; intro gb480 hg w27 BK480 hb; replace HO_3 := asd (Kd.V_below (Kd.V_elderB (by (with_reducible repeat (first | apply Kd.V_alloc | apply Kd.V_drewN | apply Kd.V_drew)); exact HO_3.out) gb480 (Nat.le_of_eq hg.symm)) hb); replace HO_11 := asd (Kd.R_below (Kd.R_elderB (kr HO_11) gb480 (Nat.le_of_eq hg.symm)) hb); replace HO_24 := asd (Kd.V_below (Kd.V_elderB (by (with_reducible repeat (first | apply Kd.V_alloc | apply Kd.V_drewN | apply Kd.V_drew)); exact HO_24.out) gb480 (Nat.le_of_eq hg.symm)) hb); have GE480 := ngw1 hg HB GE471; replace HB := bS1 HB GE471 hb; have NB471_480 := nlt hg BK471; have NB480_471 := nsy (nlt hg BK471); replace BK471 := bB BK471 hb; clear hb hg; have hnb28 := NB480_471.out; have hnc28 := NB471_480.out; obtain ⟨hcz29_0, hcz29_1, hcz29_2, hcz29_3, hcz29_4, hcz29_5, hfz29_0, hfz29_1, hfz29_2, hfz29_3, hfz29_4, hfz29_5⟩ := bz6 BK480) | ((with_reducible refine gate_callee (f := 23) rfl ?_); refine gl 32 Try.func23 #[.slice A3 l3.length c3, .agg #[.int .i64 ((rd_T48 l2 x26_1).f0.f0), .int .i64 ((rd_T48 l2 x26_1).f0.f1), .int .i64 ((rd_T48 l2 x26_1).f0.f2), .int .i64 ((rd_T48 l2 x26_1).f0.f3), .int .i64 ((rd_T48 l2 x26_1).f1.f0), .int .i64 ((rd_T48 l2 x26_1).f1.f1)]] ?_; (with_reducible refine (impl_Motion_23.calls _ _ _ _ _ _ _ _ _ _ _ _ ?side1 ?side2 A18.out).mono ?_); (case side1 => refine (Kd.V_reads' (e := 48) (base := w.heap.size) (ok := fun k_ => ((((P2_ k_ ∨ P3_ k_) ∨ w.heap.size ≤ k_) ∧ (some k_ ≠ (u11 : Value).ownBlock ∧ k_ ≠ gb471)) ∧ k_ ≠ gb480)) (n := l3.length) (c := c3) ?_).2.2; exact (by (with_reducible repeat (first | apply Kd.V_alloc | apply Kd.V_drewN | apply Kd.V_drew)); exact (Kd.V_mono (Kd.V_far (p := ⟨gb480, 5, none⟩) (Kd.V_far (p := ⟨gb480, 4, none⟩) (Kd.V_far (p := ⟨gb480, 3, none⟩) (Kd.V_far (p := ⟨gb480, 2, none⟩) (Kd.V_far (p := ⟨gb480, 1, none⟩) (Kd.V_far (p := ⟨gb480, 0, none⟩) (Kd.V_mono HO_3.out (fun k_ hk => (⟨hk, hk.2⟩ : _ ∧ k_ ≠ gb480))) (fun _ hk => hk.2) (.int .i64 ((rd_T48 l2 x26_1).f0.f0))) (fun _ hk => hk.2) (.int .i64 ((rd_T48 l2 x26_1).f0.f1))) (fun _ hk => hk.2) (.int .i64 ((rd_T48 l2 x26_1).f0.f2))) (fun _ hk => hk.2) (.int .i64 ((rd_T48 l2 x26_1).f0.f3))) (fun _ hk => hk.2) (.int .i64 ((rd_T48 l2 x26_1).f1.f0))) (fun _ hk => hk.2) (.int .i64 ((rd_T48 l2 x26_1).f1.f1))) (fun _ h_ => h_.1)))); (case side2 => exact (Kd.V_reads' HO_3.out).2.1); rintro e w30 ⟨rfl, hb⟩; refine ⟨_, rfl, ?_⟩; replace HO_3 := asd (Kd.V_below (by (with_reducible repeat (first | apply Kd.V_alloc | apply Kd.V_drewN | apply Kd.V_drew)); exact (Kd.V_mono (Kd.V_far (p := ⟨gb480, 5, none⟩) (Kd.V_far (p := ⟨gb480, 4, none⟩) (Kd.V_far (p := ⟨gb480, 3, none⟩) (Kd.V_far (p := ⟨gb480, 2, none⟩) (Kd.V_far (p := ⟨gb480, 1, none⟩) (Kd.V_far (p := ⟨gb480, 0, none⟩) (Kd.V_mono HO_3.out (fun k_ hk => (⟨hk, hk.2⟩ : _ ∧ k_ ≠ gb480))) (fun _ hk => hk.2) (.int .i64 ((rd_T48 l2 x26_1).f0.f0))) (fun _ hk => hk.2) (.int .i64 ((rd_T48 l2 x26_1).f0.f1))) (fun _ hk => hk.2) (.int .i64 ((rd_T48 l2 x26_1).f0.f2))) (fun _ hk => hk.2) (.int .i64 ((rd_T48 l2 x26_1).f0.f3))) (fun _ hk => hk.2) (.int .i64 ((rd_T48 l2 x26_1).f1.f0))) (fun _ hk => hk.2) (.int .i64 ((rd_T48 l2 x26_1).f1.f1))) (fun _ h_ => h_.1))) hb); replace HO_11 := asd (Kd.R_below (by (with_reducible repeat (first | apply Kd.R_alloc | apply Kd.R_drewN | apply Kd.R_drew)); exact (Kd.R_mono (rw6 (Kd.R_mono HO_11.out (fun k_ hk => (⟨hk, hk.2⟩ : _ ∧ k_ ≠ gb480)))) (fun _ h_ => h_.1))) hb); replace HO_24 := asd (Kd.V_below (by (with_reducible repeat (first | apply Kd.V_alloc | apply Kd.V_drewN | apply Kd.V_drew)); exact (Kd.V_mono (Kd.V_far (p := ⟨gb480, 5, none⟩) (Kd.V_far (p := ⟨gb480, 4, none⟩) (Kd.V_far (p := ⟨gb480, 3, none⟩) (Kd.V_far (p := ⟨gb480, 2, none⟩) (Kd.V_far (p := ⟨gb480, 1, none⟩) (Kd.V_far (p := ⟨gb480, 0, none⟩) (Kd.V_mono HO_24.out (fun k_ hk => (⟨hk, hk.2⟩ : _ ∧ k_ ≠ gb480))) (fun _ hk => hk.2) (.int .i64 ((rd_T48 l2 x26_1).f0.f0))) (fun _ hk => hk.2) (.int .i64 ((rd_T48 l2 x26_1).f0.f1))) (fun _ hk => hk.2) (.int .i64 ((rd_T48 l2 x26_1).f0.f2))) (fun _ hk => hk.2) (.int .i64 ((rd_T48 l2 x26_1).f0.f3))) (fun _ hk => hk.2) (.int .i64 ((rd_T48 l2 x26_1).f1.f0))) (fun _ hk => hk.2) (.int .i64 ((rd_T48 l2 x26_1).f1.f1))) (fun _ h_ => h_.1))) hb); replace BK471 := asd (blk_below (g := gb471) (o := .cells #[.int .i64 a1_0, .int .i64 a1_1, .int .i64 a1_2] 29 (0, 0)) (bq1 BK471 NB471_480) hb); replace BK480 := asd (blk_below (g := gb480) (o := .cells #[.int .i64 ((rd_T48 l2 x26_1).f0.f0), .int .i64 ((rd_T48 l2 x26_1).f0.f1), .int .i64 ((rd_T48 l2 x26_1).f0.f2), .int .i64 ((rd_T48 l2 x26_1).f0.f3), .int .i64 ((rd_T48 l2 x26_1).f1.f0), .int .i64 ((rd_T48 l2 x26_1).f1.f1)] 48 (0, 0)) (bq0 BK480) hb); replace HB := bS2 HB GE471 GE480 hb; (try clear hb)))
     go_roundg k1
     case measure => have := HK1.out; omega
     case rel => exact ⟨(x11_1), (wrap64 (x26_1 + 1)), (by first | rfl | (simp; done) | (simp [*]; done)), H', ⟨by have := HK1.out; omega⟩, ⟨by (with_reducible repeat (first | apply Kd.V_alloc | apply Kd.V_drewN | apply Kd.V_drew)); exact Kd.V_mono HO_3.out (fun _ hk => ⟨hk.1.1, ⟨hk.1.2.1, hk.1.2.2⟩⟩)⟩, ⟨by (with_reducible repeat (first | apply Kd.R_alloc | apply Kd.R_drewN | apply Kd.R_drew)); exact Kd.R_mono HO_11.out (fun _ hk => hk.1)⟩, ⟨by (with_reducible repeat (first | apply Kd.V_alloc | apply Kd.V_drewN | apply Kd.V_drew)); exact Kd.V_mono HO_24.out (fun _ hk => ⟨hk.1.1, ⟨hk.1.2.1, hk.1.2.2⟩⟩)⟩, ⟨bkp BK471⟩, ⟨bbw2 HB GE471 GE480⟩⟩
 ·go_ret2
  exact ⟨_, by first | rfl | (simp [errW_none, errW_some] <;> rfl) | (simp [*, errW_none, errW_some] <;> rfl), by first | exact Kd.R_nil _ _ _ _ _ | exact Kd.N_nil _ _ _ _ _ | exact Kd.V_nil _ _ _ _ _ | exact Kd.Q_nil _ _ _ _ _ | exact Kd.S_nil _ _ _ _ _, bbw1 HB GE471⟩
/-! ### laws_eqMat: function 53 -/
def laws_eqMat.f (a0_0 : Int) (a0_1 : Int) (a0_2 : Int) (a0_3 : Int) (a1_0 : Int) (a1_1 : Int) (a1_2 : Int) (a1_3 : Int) : Option (Bool) := if a0_0 = a1_0 then (if a0_1 = a1_1 then (if a0_2 = a1_2 then (if a0_3 = a1_3 then (some true) else (some false)) else (some false)) else (some false)) else (some false)
set_option maxHeartbeats 8000000 in
set_option maxRecDepth 100000 in
theorem laws_eqMat.calls (a0_0 : Int) (a0_1 : Int) (a0_2 : Int) (a0_3 : Int) (a1_0 : Int) (a1_1 : Int) (a1_2 : Int) (a1_3 : Int) (r : Bool) (w : World) (h : laws_eqMat.f a0_0 a0_1 a0_2 a0_3 a1_0 a1_1 a1_2 a1_3 = some r) :
  Calls Try.prog 53 #[.agg #[.int .i64 a0_0, .int .i64 a0_1, .int .i64 a0_2, .int .i64 a0_3], .agg #[.int .i64 a1_0, .int .i64 a1_1, .int .i64 a1_2, .int .i64 a1_3]] w fun e w' => e = .returned (.bool r) ∧ Below w.heap.size w w' := by
 have hu44 := Try.underlying44
 have HB := asd (Below.refl w.heap.size w)
 have H : (if a0_0 = a1_0 then (if a0_1 = a1_1 then (if a0_2 = a1_2 then (if a0_3 = a1_3 then (some true) else (some false)) else (some false)) else (some false)) else (some false)) = some r := h
 clear h
 by_cases c3 : a0_0 = a1_0
 rw [if_pos c3] at H
 have c3b0 : (a0_0 == a1_0) = true := beq_iff_eq.mpr c3
 have c3b1 : (a0_0 != a1_0) = false := bne_eq_false_iff_eq.mpr c3
 clear c3
 by_cases c4 : a0_1 = a1_1
 rw [if_pos c4] at H
 have c4b0 : (a0_1 == a1_1) = true := beq_iff_eq.mpr c4
 have c4b1 : (a0_1 != a1_1) = false := bne_eq_false_iff_eq.mpr c4
 clear c4
 by_cases c5 : a0_2 = a1_2
 rw [if_pos c5] at H
 have c5b0 : (a0_2 == a1_2) = true := beq_iff_eq.mpr c5
 have c5b1 : (a0_2 != a1_2) = false := bne_eq_false_iff_eq.mpr c5
 clear c5
 by_cases c6 : a0_3 = a1_3
 rw [if_pos c6] at H
 have c6b0 : (a0_3 == a1_3) = true := beq_iff_eq.mpr c6
 have c6b1 : (a0_3 != a1_3) = false := bne_eq_false_iff_eq.mpr c6
 clear c6
 obtain rfl := Option.some.inj H
 rotate_left
 rw [if_neg c6] at H
 have c6b0 : (a0_3 == a1_3) = false := beq_eq_false_iff_ne.mpr c6
 have c6b1 : (a0_3 != a1_3) = true := bne_iff_ne.mpr c6
 obtain rfl := Option.some.inj H
 rotate_left
 rw [if_neg c5] at H
 have c5b0 : (a0_2 == a1_2) = false := beq_eq_false_iff_ne.mpr c5
 have c5b1 : (a0_2 != a1_2) = true := bne_iff_ne.mpr c5
 obtain rfl := Option.some.inj H
 rotate_left
 rw [if_neg c4] at H
 have c4b0 : (a0_1 == a1_1) = false := beq_eq_false_iff_ne.mpr c4
 have c4b1 : (a0_1 != a1_1) = true := bne_iff_ne.mpr c4
 obtain rfl := Option.some.inj H
 rotate_left
 rw [if_neg c3] at H
 have c3b0 : (a0_0 == a1_0) = false := beq_eq_false_iff_ne.mpr c3
 have c3b1 : (a0_0 != a1_0) = true := bne_iff_ne.mpr c3
 obtain rfl := Option.some.inj H
 rotate_left
 all_goals
  go_enter Try.func53, Try.ntmps53
  go_wp2_with (first | ((with_reducible refine gd 2 rfl ?_); refine bx #[.int .i64 a0_0, .int .i64 a0_1, .int .i64 a0_2, .int .i64 a0_3] 44 ?_; intro gb485 hg w7 BK485 hb; have GE485 := ngw0 hg HB; replace HB := bS0 HB hb; clear hb hg) | ((with_reducible refine gd 3 rfl ?_); refine bx #[.int .i64 a1_0, .int .i64 a1_1, .int .i64 a1_2, .int .i64 a1_3] 44 ?_; intro gb486 hg w8 BK486 hb; have GE486 := ngw1 hg HB GE485; replace HB := bS1 HB GE485 hb; have NB485_486 := nlt hg BK485; have NB486_485 := nsy (nlt hg BK485); replace BK485 := bB BK485 hb; clear hb hg; have hnb9 := NB485_486.out; have hnc9 := NB486_485.out; obtain ⟨hcz10_0, hcz10_1, hcz10_2, hcz10_3, hfz10_0, hfz10_1, hfz10_2, hfz10_3⟩ := bz4 BK485; obtain ⟨hcz11_0, hcz11_1, hcz11_2, hcz11_3, hfz11_0, hfz11_1, hfz11_2, hfz11_3⟩ := bz4 BK486))
  go_ret
  exact er (bbw2 HB GE485 GE486)
/-! ### laws_eqVec: function 54 -/
def laws_eqVec.f (a0_0 : Int) (a0_1 : Int) (a1_0 : Int) (a1_1 : Int) : Option (Bool) := if a0_0 = a1_0 then (if a0_1 = a1_1 then (some true) else (some false)) else (some false)
set_option maxHeartbeats 8000000 in
set_option maxRecDepth 100000 in
theorem laws_eqVec.calls (a0_0 : Int) (a0_1 : Int) (a1_0 : Int) (a1_1 : Int) (r : Bool) (w : World) (h : laws_eqVec.f a0_0 a0_1 a1_0 a1_1 = some r) :
  Calls Try.prog 54 #[.agg #[.int .i64 a0_0, .int .i64 a0_1], .agg #[.int .i64 a1_0, .int .i64 a1_1]] w fun e w' => e = .returned (.bool r) ∧ Below w.heap.size w w' := by
 have hu46 := Try.underlying46
 have HB := asd (Below.refl w.heap.size w)
 have H : (if a0_0 = a1_0 then (if a0_1 = a1_1 then (some true) else (some false)) else (some false)) = some r := h
 clear h
 by_cases c3 : a0_0 = a1_0
 rw [if_pos c3] at H
 have c3b0 : (a0_0 == a1_0) = true := beq_iff_eq.mpr c3
 have c3b1 : (a0_0 != a1_0) = false := bne_eq_false_iff_eq.mpr c3
 clear c3
 by_cases c4 : a0_1 = a1_1
 rw [if_pos c4] at H
 have c4b0 : (a0_1 == a1_1) = true := beq_iff_eq.mpr c4
 have c4b1 : (a0_1 != a1_1) = false := bne_eq_false_iff_eq.mpr c4
 clear c4
 obtain rfl := Option.some.inj H
 rotate_left
 rw [if_neg c4] at H
 have c4b0 : (a0_1 == a1_1) = false := beq_eq_false_iff_ne.mpr c4
 have c4b1 : (a0_1 != a1_1) = true := bne_iff_ne.mpr c4
 obtain rfl := Option.some.inj H
 rotate_left
 rw [if_neg c3] at H
 have c3b0 : (a0_0 == a1_0) = false := beq_eq_false_iff_ne.mpr c3
 have c3b1 : (a0_0 != a1_0) = true := bne_iff_ne.mpr c3
 obtain rfl := Option.some.inj H
 rotate_left
 all_goals
  go_enter Try.func54, Try.ntmps54
  go_wp2_with (first | ((with_reducible refine gd 2 rfl ?_); refine bx #[.int .i64 a0_0, .int .i64 a0_1] 46 ?_; intro gb487 hg w5 BK487 hb; have GE487 := ngw0 hg HB; replace HB := bS0 HB hb; clear hb hg) | ((with_reducible refine gd 3 rfl ?_); refine bx #[.int .i64 a1_0, .int .i64 a1_1] 46 ?_; intro gb488 hg w6 BK488 hb; have GE488 := ngw1 hg HB GE487; replace HB := bS1 HB GE487 hb; have NB487_488 := nlt hg BK487; have NB488_487 := nsy (nlt hg BK487); replace BK487 := bB BK487 hb; clear hb hg; have hnb7 := NB487_488.out; have hnc7 := NB488_487.out; obtain ⟨hcz8_0, hcz8_1, hfz8_0, hfz8_1⟩ := bz2 BK487; obtain ⟨hcz9_0, hcz9_1, hfz9_0, hfz9_1⟩ := bz2 BK488))
  go_ret
  exact er (bbw2 HB GE487 GE488)
/-! ### laws_eqMotion: function 24 -/
def laws_eqMotion.f (a0_0 : Int) (a0_1 : Int) (a0_2 : Int) (a0_3 : Int) (a0_4 : Int) (a0_5 : Int) (a1_0 : Int) (a1_1 : Int) (a1_2 : Int) (a1_3 : Int) (a1_4 : Int) (a1_5 : Int) : Option (Bool) := (laws_eqMat.f a0_0 a0_1 a0_2 a0_3 a1_0 a1_1 a1_2 a1_3).bind fun t491 => (if t491 = true then ((laws_eqVec.f a0_4 a0_5 a1_4 a1_5).bind fun t492 => (if t492 = true then (some true) else (some false))) else (some false))
set_option maxHeartbeats 8000000 in
set_option maxRecDepth 100000 in
theorem laws_eqMotion.calls (a0_0 : Int) (a0_1 : Int) (a0_2 : Int) (a0_3 : Int) (a0_4 : Int) (a0_5 : Int) (a1_0 : Int) (a1_1 : Int) (a1_2 : Int) (a1_3 : Int) (a1_4 : Int) (a1_5 : Int) (r : Bool) (w : World) (h : laws_eqMotion.f a0_0 a0_1 a0_2 a0_3 a0_4 a0_5 a1_0 a1_1 a1_2 a1_3 a1_4 a1_5 = some r) :
  Calls Try.prog 24 #[.agg #[.int .i64 a0_0, .int .i64 a0_1, .int .i64 a0_2, .int .i64 a0_3, .int .i64 a0_4, .int .i64 a0_5], .agg #[.int .i64 a1_0, .int .i64 a1_1, .int .i64 a1_2, .int .i64 a1_3, .int .i64 a1_4, .int .i64 a1_5]] w fun e w' => e = .returned (.bool r) ∧ Below w.heap.size w w' := by
 have hu48 := Try.underlying48
 have hu44 := Try.underlying44
 have hu46 := Try.underlying46
 have HB := asd (Below.refl w.heap.size w)
 have H : ((laws_eqMat.f a0_0 a0_1 a0_2 a0_3 a1_0 a1_1 a1_2 a1_3).bind fun t491 => (if t491 = true then ((laws_eqVec.f a0_4 a0_5 a1_4 a1_5).bind fun t492 => (if t492 = true then (some true) else (some false))) else (some false))) = some r := h
 clear h
 obtain ⟨t491, A3, H⟩ := ob H
 try dsimp only at H
 by_cases c4 : t491 = true
 subst c4
 replace H := ifT H
 obtain ⟨t492, A5, H⟩ := ob H
 try dsimp only at H
 by_cases c6 : t492 = true
 subst c6
 replace H := ifT H
 obtain rfl := Option.some.inj H
 rotate_left
 replace c6 := Bool.eq_false_iff.mpr c6
 subst c6
 replace H := ifF H
 obtain rfl := Option.some.inj H
 rotate_left
 replace c4 := Bool.eq_false_iff.mpr c4
 subst c4
 replace H := ifF H
 obtain rfl := Option.some.inj H
 rotate_left
 all_goals
  go_enter Try.func24, Try.ntmps24
 rotate_left 2
 ·go_wp2_with (first | ((with_reducible refine gd 2 rfl ?_); refine bx #[.int .i64 a0_0, .int .i64 a0_1, .int .i64 a0_2, .int .i64 a0_3, .int .i64 a0_4, .int .i64 a0_5] 48 ?_; intro gb489 hg w25 BK489 hb; have GE489 := ngw0 hg HB; replace HB := bS0 HB hb; clear hb hg) | ((with_reducible refine gd 3 rfl ?_); refine bx #[.int .i64 a1_0, .int .i64 a1_1, .int .i64 a1_2, .int .i64 a1_3, .int .i64 a1_4, .int .i64 a1_5] 48 ?_; intro gb490 hg w26 BK490 hb; have GE490 := ngw1 hg HB GE489; replace HB := bS1 HB GE489 hb; have NB489_490 := nlt hg BK489; have NB490_489 := nsy (nlt hg BK489); replace BK489 := bB BK489 hb; clear hb hg; have hnb27 := NB489_490.out; have hnc27 := NB490_489.out; obtain ⟨hcz28_0, hcz28_1, hcz28_2, hcz28_3, hcz28_4, hcz28_5, hfz28_0, hfz28_1, hfz28_2, hfz28_3, hfz28_4, hfz28_5⟩ := bz6 BK489; obtain ⟨hcz29_0, hcz29_1, hcz29_2, hcz29_3, hcz29_4, hcz29_5, hfz29_0, hfz29_1, hfz29_2, hfz29_3, hfz29_4, hfz29_5⟩ := bz6 BK490) | ((with_reducible refine gate_callee (f := 53) rfl ?_); refine gl 9 Try.func53 #[.agg #[.int .i64 a0_0, .int .i64 a0_1, .int .i64 a0_2, .int .i64 a0_3], .agg #[.int .i64 a1_0, .int .i64 a1_1, .int .i64 a1_2, .int .i64 a1_3]] ?_; (with_reducible refine (laws_eqMat.calls _ _ _ _ _ _ _ _ _ _ A3.out).mono ?_); rintro e w30 ⟨rfl, hb⟩; refine ⟨_, rfl, ?_⟩; replace BK489 := bB BK489 hb; replace BK490 := bB BK490 hb; replace HB := bS2 HB GE489 GE490 hb; (try clear hb)))
  go_ret
  exact er (bbw2 HB GE489 GE490)
 all_goals
  go_wp2_with (first | ((with_reducible refine gd 2 rfl ?_); refine bx #[.int .i64 a0_0, .int .i64 a0_1, .int .i64 a0_2, .int .i64 a0_3, .int .i64 a0_4, .int .i64 a0_5] 48 ?_; intro gb489 hg w7 BK489 hb; have GE489 := ngw0 hg HB; replace HB := bS0 HB hb; clear hb hg) | ((with_reducible refine gd 3 rfl ?_); refine bx #[.int .i64 a1_0, .int .i64 a1_1, .int .i64 a1_2, .int .i64 a1_3, .int .i64 a1_4, .int .i64 a1_5] 48 ?_; intro gb490 hg w8 BK490 hb; have GE490 := ngw1 hg HB GE489; replace HB := bS1 HB GE489 hb; have NB489_490 := nlt hg BK489; have NB490_489 := nsy (nlt hg BK489); replace BK489 := bB BK489 hb; clear hb hg; have hnb9 := NB489_490.out; have hnc9 := NB490_489.out; obtain ⟨hcz10_0, hcz10_1, hcz10_2, hcz10_3, hcz10_4, hcz10_5, hfz10_0, hfz10_1, hfz10_2, hfz10_3, hfz10_4, hfz10_5⟩ := bz6 BK489; obtain ⟨hcz11_0, hcz11_1, hcz11_2, hcz11_3, hcz11_4, hcz11_5, hfz11_0, hfz11_1, hfz11_2, hfz11_3, hfz11_4, hfz11_5⟩ := bz6 BK490) | ((with_reducible refine gate_callee (f := 53) rfl ?_); refine gl 9 Try.func53 #[.agg #[.int .i64 a0_0, .int .i64 a0_1, .int .i64 a0_2, .int .i64 a0_3], .agg #[.int .i64 a1_0, .int .i64 a1_1, .int .i64 a1_2, .int .i64 a1_3]] ?_; (with_reducible refine (laws_eqMat.calls _ _ _ _ _ _ _ _ _ _ A3.out).mono ?_); rintro e w12 ⟨rfl, hb⟩; refine ⟨_, rfl, ?_⟩; replace BK489 := bB BK489 hb; replace BK490 := bB BK490 hb; replace HB := bS2 HB GE489 GE490 hb; (try clear hb); obtain ⟨hcz13_0, hcz13_1, hcz13_2, hcz13_3, hcz13_4, hcz13_5, hfz13_0, hfz13_1, hfz13_2, hfz13_3, hfz13_4, hfz13_5⟩ := bz6 BK489; obtain ⟨hcz14_0, hcz14_1, hcz14_2, hcz14_3, hcz14_4, hcz14_5, hfz14_0, hfz14_1, hfz14_2, hfz14_3, hfz14_4, hfz14_5⟩ := bz6 BK490) | ((with_reducible refine gate_callee (f := 54) rfl ?_); refine gl 15 Try.func54 #[.agg #[.int .i64 a0_4, .int .i64 a0_5], .agg #[.int .i64 a1_4, .int .i64 a1_5]] ?_; (with_reducible refine (laws_eqVec.calls _ _ _ _ _ _ A5.out).mono ?_); rintro e w15 ⟨rfl, hb⟩; refine ⟨_, rfl, ?_⟩; replace BK489 := bB BK489 hb; replace BK490 := bB BK490 hb; replace HB := bS2 HB GE489 GE490 hb; (try clear hb)))
  go_ret
  exact er (bbw2 HB GE489 GE490)
/-! ### laws_eqMotionS: function 11 -/
def laws_eqMotionS.l0 : Nat → List (S48) → List (S48) → Int → Option (Bool)
 | 0, _, _, _ => none
 | k + 1, x0, x1, x5 => if x5 < (x0.length : Int) then (if 0 ≤ x5 then (if x5 < (x1.length : Int) then ((laws_eqMotion.f ((rd_T48 x0 x5).f0.f0) ((rd_T48 x0 x5).f0.f1) ((rd_T48 x0 x5).f0.f2) ((rd_T48 x0 x5).f0.f3) ((rd_T48 x0 x5).f1.f0) ((rd_T48 x0 x5).f1.f1) ((rd_T48 x1 x5).f0.f0) ((rd_T48 x1 x5).f0.f1) ((rd_T48 x1 x5).f0.f2) ((rd_T48 x1 x5).f0.f3) ((rd_T48 x1 x5).f1.f0) ((rd_T48 x1 x5).f1.f1)).bind fun t495 => (if t495 = true then (laws_eqMotionS.l0 k x0 x1 (wrap64 (x5 + 1))) else (some false))) else (none)) else (none)) else (some true)
def laws_eqMotionS.f (k : Nat) (l0 : List (S48)) (l1 : List (S48)) : Option (Bool) := if (l0.length : Int) = (l1.length : Int) then (laws_eqMotionS.l0 k l0 l1 0) else (some false)
def laws_eqMotionS.T6 : Bool × List (List Nat × List Nat) := (true, [([], []), ([], []), ([0, 1], [0, 1]), ([2], [2]), ([], []), ([], []), ([4, 5], [4, 5]), ([6], [6]), ([3, 7], [3, 7]), ([8], [8])])
def laws_eqMotionS.B6 : List Nat := [0, 0, 3, 7, 0, 0, 48, 112, 255, 511]
theorem laws_eqMotionS.tab6 : rtab .any (opsOf Try.f11 6) = laws_eqMotionS.T6 := by kernel_rfl
theorem laws_eqMotionS.bits6 : waitsOk laws_eqMotionS.T6.2 laws_eqMotionS.B6 = true := by kernel_rfl
set_option maxHeartbeats 8000000 in
set_option maxRecDepth 100000 in
theorem laws_eqMotionS.calls (k : Nat) (A0 : Option Addr) (c0 : Nat) (l0 : List (S48)) (A1 : Option Addr) (c1 : Nat) (l1 : List (S48)) (r : Bool) (w : World) (hr0 : Kd.C k48 w A0 l0.length l0) (hc0 : l0.length ≤ c0) (hr1 : Kd.C k48 w A1 l1.length l1) (hc1 : l1.length ≤ c1) (h : laws_eqMotionS.f k l0 l1 = some r) :
  Calls Try.prog 11 #[.slice A0 l0.length c0, .slice A1 l1.length c1] w fun e w' => e = .returned (.bool r) ∧ Below w.heap.size w w' := by
 have hu48 := Try.underlying48
 have HR0 := Aside0.mk hr0
 have HC0 := Aside0.mk hc0
 clear hr0 hc0
 have HR1 := Aside0.mk hr1
 have HC1 := Aside0.mk hc1
 clear hr1 hc1
 have HB := asd (Below.refl w.heap.size w)
 have H : (if (l0.length : Int) = (l1.length : Int) then (laws_eqMotionS.l0 k l0 l1 0) else (some false)) = some r := h
 clear h
 by_cases c3 : (l0.length : Int) = (l1.length : Int)
 ·rw [if_pos c3] at H
  have c3b0 : ((l0.length : Int) == (l1.length : Int)) = true := beq_iff_eq.mpr c3
  have c3b1 : ((l0.length : Int) != (l1.length : Int)) = false := bne_eq_false_iff_eq.mpr c3
  have c3b2 : (l0.length == l1.length) = true := by first | simpa using c3 | (simp at c3 ⊢; omega)
  clear c3
  have H' := Aside0.mk H
  clear H
  go_enter Try.func11, Try.ntmps11
  go_wp2
  go_loopg [5] k (fun kq v5 w' => ∃ (x5_1 : Int), v5 = .int .i64 x5_1 ∧ Aside0 (laws_eqMotionS.l0 kq l0 l1 x5_1 = some r) ∧ Aside0 (kq ≤ k) ∧ Aside0 (Below w.heap.size w w'))
  case atStart => exact ⟨(0), (by first | rfl | (simp; done) | (simp [*]; done)), H', ⟨Nat.le_refl _⟩, ⟨bbw0 HB⟩⟩
  case round =>
   clear H'
   try clear c1
   try clear p2
   try clear c3
   try clear c3b0
   try clear c3b1
   try clear c3b2
   obtain ⟨x5_1, rfl, HA, HK1, HB⟩ := hrel
   cases gk with
   | zero => exact absurd HA.out (by simp [laws_eqMotionS.l0])
   | succ k1 =>
    have H := HA.out
    clear HA
    simp only [laws_eqMotionS.l0] at H
    by_cases c4 : x5_1 < (l0.length : Int)
    rw [if_pos c4] at H
    have c4b0 := decide_eq_true c4
    clear c4
    by_cases c5 : 0 ≤ x5_1
    rw [if_pos c5] at H
    have c5b0 := decide_eq_true c5
    clear c5
    by_cases c6 : x5_1 < (l1.length : Int)
    rw [if_pos c6] at H
    have c6b0 := decide_eq_true c6
    clear c6
    obtain ⟨t495, A7, H⟩ := ob H
    try dsimp only at H
    by_cases c8 : t495 = true
    subst c8
    replace H := ifT H
    have H' := Aside0.mk H
    clear H
    rotate_left
    replace c8 := Bool.eq_false_iff.mpr c8
    subst c8
    replace H := ifF H
    obtain rfl := Option.some.inj H
    rotate_left
    ·rw [if_neg c6] at H
     exact absurd H (by simp)
    ·rw [if_neg c5] at H
     exact absurd H (by simp)
    rw [if_neg c4] at H
    have c4b0 := decide_eq_false c4
    clear c4
    obtain rfl := Option.some.inj H
    rotate_left
    rotate_left 2
    ·go_wp2
     go_ret
     exact er (bbw0 HB)
    all_goals
     try go_wp2
     replace HB := asd (below_drew1 HB.out)
     obtain ⟨p493, q493, ad493, e493, hw493_0, hw493_1, hw493_2, hw493_3, hw493_4, hw493_5, hx493_0, hx493_1, hx493_2, hx493_3, hx493_4, hx493_5⟩ := at_T48w HR0.out HB x5_1
     cases e493
     obtain ⟨p494, q494, ad494, e494, hw494_0, hw494_1, hw494_2, hw494_3, hw494_4, hw494_5, hx494_0, hx494_1, hx494_2, hx494_3, hx494_4, hx494_5⟩ := at_T48w HR1.out HB x5_1
     cases e494
     refine sh 10 (cx6 HB hw493_0 hw493_1 hw493_2 hw493_3 hw493_4 hw493_5 (ex6 HB hw494_0 hw494_1 hw494_2 hw494_3 hw494_4 hw494_5)) (fun hHeld => ?_); refine with_tabW laws_eqMotionS.tab6 laws_eqMotionS.bits6 (fun HT_ HW_ => ?_)
     generalize wr.drew = w9 at HB hx493_0 hx493_1 hx493_2 hx493_3 hx493_4 hx493_5 hx494_0 hx494_1 hx494_2 hx494_3 hx494_4 hx494_5 hHeld ⊢
     refine pu 0 (some 17) (bt 10 1) HT_ ?_
     refine pu 1 (some 18) (bt 10 2) HT_ ?_
     refine pu 2 (some 19) (bt 10 3) HT_ ?_
     refine pu 4 (some 21) (bs 10 23) HT_ ?_
     refine pu 5 (some 22) (bs 10 55) HT_ ?_
     refine pu 6 (some 23) (bs 10 119) HT_ ?_
     refine ta 3 (some 20) (bt 10 7) HT_ HW_ hHeld ?_
     refine ta 7 (some 24) (bt 10 8) HT_ HW_ hHeld ?_
     refine ro 8 (some 25) (bt 10 9) HT_ (fun K hK => ?_)
     refine gs Try.func24 #[.agg #[.int .i64 ((rd_T48 l0 x5_1).f0.f0), .int .i64 ((rd_T48 l0 x5_1).f0.f1), .int .i64 ((rd_T48 l0 x5_1).f0.f2), .int .i64 ((rd_T48 l0 x5_1).f0.f3), .int .i64 ((rd_T48 l0 x5_1).f1.f0), .int .i64 ((rd_T48 l0 x5_1).f1.f1)], .agg #[.int .i64 ((rd_T48 l1 x5_1).f0.f0), .int .i64 ((rd_T48 l1 x5_1).f0.f1), .int .i64 ((rd_T48 l1 x5_1).f0.f2), .int .i64 ((rd_T48 l1 x5_1).f0.f3), .int .i64 ((rd_T48 l1 x5_1).f1.f0), .int .i64 ((rd_T48 l1 x5_1).f1.f1)]] ?_
     with_reducible refine (laws_eqMotion.calls _ _ _ _ _ _ _ _ _ _ _ _ _ _ A7.out).mono ?_
     rintro e w10 ⟨rfl, hb⟩
     refine ⟨_, rfl, ?_⟩
     replace HB := bS0 HB hb
     (try clear hb)
     (try clear hb2)
     (try clear hk)
     (try clear hi)
     refine hK.out _ _ (cx6 HB hw493_0 hw493_1 hw493_2 hw493_3 hw493_4 hw493_5 (ex6 HB hw494_0 hw494_1 hw494_2 hw494_3 hw494_4 hw494_5)).out (fun hHeld => ?_)
     clear hK K
     refine norm_ (a' := ?_) ?_ ?_
     rotate_left
     ·show Act.put _ (some 25) _ = _
      simp only [Act.put, sA, sB, sC, i64_w, i32_w]
      rfl
     refine pu 9 (some 26) (bt 10 10) HT_ ?_
     refine done_ (done_of HT_.out (by kernel_rfl)) ?_
     try go_wp2
    ·go_roundg k1
     case measure => have := HK1.out; omega
     case rel => exact ⟨(wrap64 (x5_1 + 1)), (by first | rfl | (simp; done) | (simp [*]; done)), H', ⟨by have := HK1.out; omega⟩, ⟨bbw0 HB⟩⟩
    ·go_ret
     exact er (bbw0 HB)
 ·rw [if_neg c3] at H
  have c3b0 : ((l0.length : Int) == (l1.length : Int)) = false := beq_eq_false_iff_ne.mpr c3
  have c3b1 : ((l0.length : Int) != (l1.length : Int)) = true := bne_iff_ne.mpr c3
  have c3b2 : (l0.length == l1.length) = false := by first | simpa using c3 | (simp at c3 ⊢; omega)
  obtain rfl := Option.some.inj H
  go_enter Try.func11, Try.ntmps11
  go_wp2
  go_ret
  exact er (bbw0 HB)

end Go.Proofs.Ytilbokbfcmeleaa.PA
