/- Walks written by program: each Go function that the law reaches comes to the plain function beside it. -/
import Derived.Test.YtfmjboloeabjmaaPAx0
import Derived.Test.YtfmjboloeabjmaaPAx2
import Derived.Test.YtfmjboloeabjmaaPAx3
import Derived.Test.YtfmjboloeabjmaaPAx5
import Derived.Test.YtfmjboloeabjmaaPAx7
import Derived.Test.YtfmjboloeabjmaaPAx8
namespace Go.Proofs.Ytfmjboloeabjmaa.PA
open Go.RowKit Go.Proofs.YtfmjboloeabjmaaW.PrintWords Go.Proofs.YtfmjboloeabjmaaW.PrintLast Go.Proofs.YtfmjboloeabjmaaW.PrintMore
attribute [local go_sem] max2_int min2_int max_two min_two max_three min_three max_four min_four   -- for this text's walks alone
set_option linter.unusedVariables false
set_option linter.unusedSimpArgs false

attribute [local go_sem high] eqA40
/-! ### spec_l07Code: function 10 -/
def spec_l07Code.f (k : Nat) (a0 : Int) (a1_0 : Int) (a1_1 : Int) (a1_2 : Int) (l2 : List (S44)) (a3 : Bool) : Option (Int) := if a3 = true then ((spec_IsGroup.f k a0 a1_0 a1_1 a1_2 l2).bind fun t281 => ((spec_l06Code.f a0 a1_0 a1_1 a1_2 t281).bind fun t282 => (some t282))) else ((spec_l06Code.f a0 a1_0 a1_1 a1_2 false).bind fun t283 => (some t283))
def spec_l07Code.T1 : Bool × List (List Nat × List Nat) := (true, [([], []), ([], []), ([], []), ([2], [2]), ([3], [3]), ([3], [3]), ([3], [3]), ([4, 5, 6, 3, 3], [3, 4, 5, 6]), ([3, 7], [3, 7]), ([0, 1, 8, 7], [0, 1, 8]), ([9, 9, 0, 1, 2, 3, 4, 5, 6, 7, 8, 9], [9])])
def spec_l07Code.B1 : List Nat := [0, 0, 0, 4, 12, 12, 12, 124, 252, 511, 1023]
theorem spec_l07Code.tab1 : rtab .any (opsOf Try.f10 1) = spec_l07Code.T1 := by kernel_rfl
theorem spec_l07Code.bits1 : waitsOk spec_l07Code.T1.2 spec_l07Code.B1 = true := by kernel_rfl
set_option maxHeartbeats 8000000 in
set_option maxRecDepth 100000 in
theorem spec_l07Code.calls (k : Nat) (a0 : Int) (a1_0 : Int) (a1_1 : Int) (a1_2 : Int) (A2 : Option Addr) (c2 : Nat) (l2 : List (S44)) (a3 : Bool) (r : Int) (w : World) (hr2 : Kd.C k44 w A2 l2.length l2) (hc2 : l2.length ≤ c2) (h : spec_l07Code.f k a0 a1_0 a1_1 a1_2 l2 a3 = some r) :
  Calls Try.prog 10 #[.int .i64 a0, .agg #[.int .i64 a1_0, .int .i64 a1_1, .int .i64 a1_2], .slice A2 l2.length c2, .bool a3] w fun e w' => e = .returned (.int .i64 r) ∧ Below w.heap.size w w' := by
 have hu28 := Try.underlying28
 have HR2 := Aside0.mk hr2
 have HC2 := Aside0.mk hc2
 clear hr2 hc2
 have HB := asd (Below.refl w.heap.size w)
 have H : (if a3 = true then ((spec_IsGroup.f k a0 a1_0 a1_1 a1_2 l2).bind fun t281 => ((spec_l06Code.f a0 a1_0 a1_1 a1_2 t281).bind fun t282 => (some t282))) else ((spec_l06Code.f a0 a1_0 a1_1 a1_2 false).bind fun t283 => (some t283))) = some r := h
 clear h
 by_cases c5 : a3 = true
 subst c5
 replace H := ifT H
 obtain ⟨t281, A6, H⟩ := ob H
 try dsimp only at H
 obtain ⟨t282, A7, H⟩ := ob H
 try dsimp only at H
 obtain rfl := Option.some.inj H
 rotate_left
 replace c5 := Bool.eq_false_iff.mpr c5
 subst c5
 replace H := ifF H
 obtain ⟨t283, A7, H⟩ := ob H
 try dsimp only at H
 obtain rfl := Option.some.inj H
 rotate_left
 all_goals
  go_enter Try.func10, Try.ntmps10
  try go_wp2_with (first | ((with_reducible refine gd 5 rfl ?_); refine bx #[.int .i64 a1_0, .int .i64 a1_1, .int .i64 a1_2] 28 ?_; intro gb280 hg w8 BK280 hb; have GE280 := ngw0 hg HB; replace HB := bS0 HB hb; clear hb hg))
  replace BK280 := asd (blk_drew BK280.out)
  replace HB := asd (below_drew1 HB.out)
  refine sh 11 (eb3 BK280) (fun hHeld => ?_); refine with_tabW spec_l07Code.tab1 spec_l07Code.bits1 (fun HT_ HW_ => ?_)
  generalize w8.drew = w9 at BK280 HB hHeld ⊢
  refine pu 0 (some 9) (bT 11 1) HT_ ?_
  refine pu 2 (some 11) (bs 11 5) HT_ ?_
  refine pu 3 (some 12) (bs 11 13) HT_ ?_
 focus
  refine pu 4 (some 13) (bs 11 29) HT_ ?_
  refine pu 6 (some 15) (bs 11 93) HT_ ?_
  refine ta 1 (some 10) (bs 11 95) HT_ HW_ hHeld ?_
  refine ta 5 (some 14) (bT 11 7) HT_ HW_ hHeld ?_
  refine ro 7 (some 16) (bT 11 8) HT_ (fun K hK => ?_)
  refine gs Try.func24 #[.int .i64 a0, .agg #[.int .i64 a1_0, .int .i64 a1_1, .int .i64 a1_2], .slice A2 l2.length c2] ?_
  with_reducible refine (spec_IsGroup.calls _ _ _ _ _ _ _ _ _ _ ?side1 ?side2 A6.out).mono ?_
  (case side1 => exact ks (Kd.C_below HR2.out HB.out))
  (case side2 => exact HC2.out)
  rintro e w10 ⟨rfl, hb⟩
  refine ⟨_, rfl, ?_⟩
  replace BK280 := bB BK280 hb
  replace HB := bS1 HB GE280 hb
  (try clear hb)
  (try clear hb2)
  (try clear hk)
  (try clear hi)
  refine hK.out _ _ (eb3 BK280).out (fun hHeld => ?_)
  clear hK K
  refine norm_ (a' := ?_) ?_ ?_
  rotate_left
  ·show Act.put _ (some 16) _ = _
   simp only [Act.put, sA, sB, sC, i64_w, i32_w]
   rfl
  refine pu 8 (some 17) (bT 11 9) HT_ ?_
  refine ro 9 (some 18) (bT 11 10) HT_ (fun K hK => ?_)
  refine gs Try.func23 #[.int .i64 a0, .agg #[.int .i64 a1_0, .int .i64 a1_1, .int .i64 a1_2], .bool t281] ?_
 rotate_left
 refine pf 4 (some 13) (bs 11 29) HT_ ?_
 refine pf 5 (some 14) (bs 11 61) HT_ ?_
 refine pf 6 (some 15) (bs 11 125) HT_ ?_
 refine pf 7 (some 16) (bs 11 253) HT_ ?_
 refine pu 8 (some 17) (bs 11 509) HT_ ?_
 refine ta 1 (some 10) (bT 11 9) HT_ HW_ hHeld ?_
 refine ro 9 (some 18) (bT 11 10) HT_ (fun K hK => ?_)
 refine gs Try.func23 #[.int .i64 a0, .agg #[.int .i64 a1_0, .int .i64 a1_1, .int .i64 a1_2], .bool false] ?_
 rotate_left
 all_goals
  with_reducible refine (spec_l06Code.calls _ _ _ _ _ _ _ A7.out).mono ?_
  rintro e w11 ⟨rfl, hb⟩
  refine ⟨_, rfl, ?_⟩
  replace BK280 := bB BK280 hb
  replace HB := bS1 HB GE280 hb
  (try clear hb)
  (try clear hb2)
  (try clear hk)
  (try clear hi)
  refine hK.out _ _ (eb3 BK280).out (fun hHeld => ?_)
  clear hK K
  refine norm_ (a' := ?_) ?_ ?_
  rotate_left
  ·show Act.put _ (some 18) _ = _
   simp only [Act.put, sA, sB, sC, i64_w, i32_w]
   rfl
  refine pu 10 (some 8) (bT 11 11) HT_ ?_
  refine done_ (done_of HT_.out (by kernel_rfl)) ?_
  try go_wp2
  go_ret
  exact er (bbw1 HB GE280)
/-! ### spec_l01Has: function 11 -/
def spec_l01Has.l0 : Nat → List Int → Int → Int → Option (Bool)
 | 0, _, _, _ => none
 | k + 1, x0, x1, x5 => if x5 < (x0.length : Int) then (if 0 ≤ x5 then (if (rd x0 x5) = x1 then (some true) else (spec_l01Has.l0 k x0 x1 (wrap64 (x5 + 1)))) else (none)) else (some false)
def spec_l01Has.f (k : Nat) (l0 : List Int) (a1 : Int) : Option (Bool) := spec_l01Has.l0 k l0 a1 0
set_option maxHeartbeats 8000000 in
set_option maxRecDepth 100000 in
theorem spec_l01Has.calls (k : Nat) (A0 : Option Addr) (c0 : Nat) (l0 : List Int) (a1 : Int) (r : Bool) (w : World) (hr0 : Kd.C (Kd.int .i64) w A0 l0.length l0) (hc0 : l0.length ≤ c0) (h : spec_l01Has.f k l0 a1 = some r) :
  Calls Try.prog 11 #[.slice A0 l0.length c0, .int .i64 a1] w fun e w' => e = .returned (.bool r) ∧ Drawn0 w w' := by
 have HR0 := Aside0.mk hr0
 have HC0 := Aside0.mk hc0
 clear hr0 hc0
 have H : (spec_l01Has.l0 k l0 a1 0) = some r := h
 clear h
 have H' := Aside0.mk H
 clear H
 go_enter Try.func11, Try.ntmps11
 go_wp2
 go_loopg [5] k (fun kq v5 w' => ∃ (x5_1 : Int), v5 = .int .i64 x5_1 ∧ Aside0 (spec_l01Has.l0 kq l0 a1 x5_1 = some r) ∧ Aside0 (kq ≤ k) ∧ Drawn0 w w')
 case atStart => exact ⟨(0), (by first | rfl | (simp; done) | (simp [*]; done)), H', ⟨Nat.le_refl _⟩, by repeat (first | exact Drawn0.refl _ | apply Drawn0.step)⟩
 case round =>
  clear H'
  try clear c1
  try clear p2
  obtain ⟨x5_1, rfl, HA, HK1, ⟨m1, rfl⟩⟩ := hrel
  cases gk with
  | zero => exact absurd HA.out (by simp [spec_l01Has.l0])
  | succ k1 =>
   have H := HA.out
   clear HA
   simp only [spec_l01Has.l0] at H
   by_cases c3 : x5_1 < (l0.length : Int)
   rw [if_pos c3] at H
   have c3b0 := decide_eq_true c3
   clear c3
   by_cases c4 : 0 ≤ x5_1
   rw [if_pos c4] at H
   have c4b0 := decide_eq_true c4
   clear c4
   by_cases c5 : (rd l0 x5_1) = a1
   rw [if_pos c5] at H
   have c5b0 : ((rd l0 x5_1) == a1) = true := beq_iff_eq.mpr c5
   have c5b1 : ((rd l0 x5_1) != a1) = false := bne_eq_false_iff_eq.mpr c5
   clear c5
   obtain rfl := Option.some.inj H
   rotate_left
   rw [if_neg c5] at H
   have c5b0 : ((rd l0 x5_1) == a1) = false := beq_eq_false_iff_ne.mpr c5
   have c5b1 : ((rd l0 x5_1) != a1) = true := bne_iff_ne.mpr c5
   have H' := Aside0.mk H
   clear H
   rotate_left
   ·rw [if_neg c4] at H
    exact absurd H (by simp)
   rw [if_neg c3] at H
   have c3b0 := decide_eq_false c3
   clear c3
   obtain rfl := Option.some.inj H
   rotate_left
   rotate_left 2
   ·go_wp2
    go_ret
    exact ⟨by first | rfl | (simp; done) | (simp [*]; done), by repeat (first | exact Drawn0.refl _ | apply Drawn0.step)⟩
   all_goals
    have p284 : 0 ≤ (x5_1 : Int) := od
    have q284 : x5_1 < (l0.length : Int) := od
    obtain ⟨ad284, e284, hx284_0⟩ := Kd.at_int HR0.out x5_1 p284 q284
    cases e284
    replace p284 := eq_true p284
    replace q284 := eq_true q284
    go_wp2
   ·go_ret
    exact ⟨by first | rfl | (simp; done) | (simp [*]; done), by repeat (first | exact Drawn0.refl _ | apply Drawn0.step)⟩
   ·go_roundg k1
    case measure => have := HK1.out; omega
    case rel => exact ⟨(wrap64 (x5_1 + 1)), (by first | rfl | (simp; done) | (simp [*]; done)), H', ⟨by have := HK1.out; omega⟩, by repeat (first | exact Drawn0.refl _ | apply Drawn0.step)⟩
/-! ### spec_l02Order: function 27 -/
def spec_l02Order.l0 : Nat → Int → Int → Int → Int → Int → Int → Int → Int → Int → Option (Int)
 | 0, _, _, _, _, _, _, _, _, _ => none
 | k + 1, x4, x286000, x286001, x286002, x286003, x291000, x291001, x291002, x291003 => if x4 ≤ 6 then ((spec_l02Multiply.f x286000 x286001 x286002 x286003 x291000 x291001 x291002 x291003).bind fun bt291 => ((spec_l02Small.f bt291.1 bt291.2.1 bt291.2.2.1 bt291.2.2.2).bind fun t295 => (if t295 = true then ((spec_l02Unit.f).bind fun bt296 => (if (bt291.1 == bt296.1 && (bt291.2.1 == bt296.2.1 && (bt291.2.2.1 == bt296.2.2.1 && (bt291.2.2.2 == bt296.2.2.2)))) = true then (some x4) else (spec_l02Order.l0 k (wrap64 (x4 + 1)) x286000 x286001 x286002 x286003 bt291.1 bt291.2.1 bt291.2.2.1 bt291.2.2.2))) else (some 0)))) else (some 0)
def spec_l02Order.f (k : Nat) (a0_0 : Int) (a0_1 : Int) (a0_2 : Int) (a0_3 : Int) : Option (Int) := (spec_l02Unit.f).bind fun bt286 => (spec_l02Order.l0 k 1 a0_0 a0_1 a0_2 a0_3 bt286.1 bt286.2.1 bt286.2.2.1 bt286.2.2.2)
set_option maxHeartbeats 8000000 in
set_option maxRecDepth 100000 in
theorem spec_l02Order.calls (k : Nat) (a0_0 : Int) (a0_1 : Int) (a0_2 : Int) (a0_3 : Int) (r : Int) (w : World) (h : spec_l02Order.f k a0_0 a0_1 a0_2 a0_3 = some r) :
  Calls Try.prog 27 #[.agg #[.int .i64 a0_0, .int .i64 a0_1, .int .i64 a0_2, .int .i64 a0_3]] w fun e w' => e = .returned (.int .i64 r) ∧ Below w.heap.size w w' := by
 have hu40 := Try.underlying40
 have HB := asd (Below.refl w.heap.size w)
 have H : ((spec_l02Unit.f).bind fun bt286 => (spec_l02Order.l0 k 1 a0_0 a0_1 a0_2 a0_3 bt286.1 bt286.2.1 bt286.2.2.1 bt286.2.2.2)) = some r := h
 clear h
 obtain ⟨⟨t286, t287, t288, t289⟩, A2, H⟩ := ob H
 try dsimp only at H
 have H' := Aside0.mk H
 clear H
 go_enter Try.func27, Try.ntmps27
 go_wp2_with (first | ((with_reducible refine gd 1 rfl ?_); refine bx #[.int .i64 a0_0, .int .i64 a0_1, .int .i64 a0_2, .int .i64 a0_3] 40 ?_; intro gb285 hg w3 BK285 hb; have GE285 := ngw0 hg HB; replace HB := bS0 HB hb; clear hb hg) | ((with_reducible refine gate_callee (f := 48) rfl ?_); refine gl 5 Try.func48 #[] ?_; (with_reducible refine (spec_l02Unit.calls _ _ _ _ _ A2.out).mono ?_); rintro e w4 ⟨rfl, hb⟩; refine ⟨_, rfl, ?_⟩; replace BK285 := bB BK285 hb; replace HB := bS1 HB GE285 hb; (try clear hb)) | ((with_reducible refine gd 3 rfl ?_); refine bx #[.int .i64 0, .int .i64 0, .int .i64 0, .int .i64 0] 40 ?_; intro gb290 hg w5 BK290 hb; have GE290 := ngw1 hg HB GE285; replace HB := bS1 HB GE285 hb; have NB285_290 := nlt hg BK285; have NB290_285 := nsy (nlt hg BK285); replace BK285 := bB BK285 hb; clear hb hg; have hnb6 := NB290_285.out; have hnc6 := NB285_290.out; obtain ⟨hcz7_0, hcz7_1, hcz7_2, hcz7_3, hfz7_0, hfz7_1, hfz7_2, hfz7_3⟩ := bz4 BK290))
 go_loopg [4] k (fun kq v4 w' => ∃ (x4_1 : Int) (x291000_1 : Int) (x291001_1 : Int) (x291002_1 : Int) (x291003_1 : Int), v4 = .int .i64 x4_1 ∧ Aside0 (spec_l02Order.l0 kq x4_1 a0_0 a0_1 a0_2 a0_3 x291000_1 x291001_1 x291002_1 x291003_1 = some r) ∧ Aside0 (kq ≤ k) ∧ Aside0 (w'.heap[gb285]? = some (.cells #[.int .i64 a0_0, .int .i64 a0_1, .int .i64 a0_2, .int .i64 a0_3] 40 (0, 0))) ∧ Aside0 (w'.heap[gb290]? = some (.cells #[.int .i64 x291000_1, .int .i64 x291001_1, .int .i64 x291002_1, .int .i64 x291003_1] 40 (0, 0))) ∧ Aside0 (Below w.heap.size w w'))
 case atStart => exact ⟨(1), (t286), (t287), (t288), (t289), (by first | rfl | (simp; done) | (simp [*]; done)), H', ⟨Nat.le_refl _⟩, ⟨bq1 BK285 NB285_290⟩, ⟨bq0 BK290⟩, ⟨bbw2 HB GE285 GE290⟩⟩
 case round =>
  clear H'
  try clear c2
  try clear p2
  try clear c4
  try clear c6
  try clear hcz7_0
  try clear hcz7_1
  try clear hcz7_2
  try clear hcz7_3
  try clear hfz7_0
  try clear hfz7_1
  try clear hfz7_2
  try clear hfz7_3
  obtain ⟨x4_1, x291000_1, x291001_1, x291002_1, x291003_1, rfl, HA, HK1, BK285, BK290, HB⟩ := hrel
  cases gk with
  | zero => exact absurd HA.out (by simp [spec_l02Order.l0])
  | succ k1 =>
   have H := HA.out
   clear HA
   simp only [spec_l02Order.l0] at H
   by_cases c8 : x4_1 ≤ 6
   rw [if_pos c8] at H
   have c8b0 := decide_eq_true c8
   clear c8
   obtain ⟨⟨t291, t292, t293, t294⟩, A9, H⟩ := ob H
   try dsimp only at H
   obtain ⟨t295, A10, H⟩ := ob H
   try dsimp only at H
   by_cases c11 : t295 = true
   subst c11
   replace H := ifT H
   obtain ⟨⟨t296, t297, t298, t299⟩, A12, H⟩ := ob H
   try dsimp only at H
   by_cases c13 : (t291 == t296 && (t292 == t297 && (t293 == t298 && (t294 == t299)))) = true
   rw [if_pos c13] at H
   have c13b0 := c13
   (try (have c13b1 : decide (t291 = t296 && (t292 == t297 && (t293 == t298 && (t294 == t299)))) = true := by simpa using c13))
   (try (have c13b2 : (t291 == t296 && (t292 == t297 && (t293 == t298 && (t294 == t299)))) = true := by simpa using c13))
   clear c13
   obtain rfl := Option.some.inj H
   rotate_left
   rw [if_neg c13] at H
   have c13b0 : (t291 == t296 && (t292 == t297 && (t293 == t298 && (t294 == t299)))) = false := by simpa using c13
   (try (have c13b1 : decide (t291 = t296 && (t292 == t297 && (t293 == t298 && (t294 == t299)))) = false := by simpa using c13))
   (try (have c13b2 : (t291 == t296 && (t292 == t297 && (t293 == t298 && (t294 == t299)))) = false := by simpa using c13))
   (try (have c13b3 : ¬ (t291 = t296 && (t292 == t297 && (t293 == t298 && (t294 == t299)))) := by simpa using c13))
   clear c13
   have H' := Aside0.mk H
   clear H
   rotate_left
   replace c11 := Bool.eq_false_iff.mpr c11
   subst c11
   replace H := ifF H
   obtain rfl := Option.some.inj H
   rotate_left
   rw [if_neg c8] at H
   have c8b0 := decide_eq_false c8
   clear c8
   obtain rfl := Option.some.inj H
   rotate_left
   rotate_left 3
   ·go_wp2
    go_ret
    exact er (bbw2 HB GE285 GE290)
   all_goals
    have hnb14 := NB285_290.out
    have hnc14 := NB290_285.out
    obtain ⟨hcz15_0, hcz15_1, hcz15_2, hcz15_3, hfz15_0, hfz15_1, hfz15_2, hfz15_3⟩ := bz4 BK285
    obtain ⟨hcz16_0, hcz16_1, hcz16_2, hcz16_3, hfz16_0, hfz16_1, hfz16_2, hfz16_3⟩ := bz4 BK290
   rotate_left 2
   ·go_wp2_with (first | ((with_reducible refine gate_callee (f := 49) rfl ?_); refine gl 12 Try.func49 #[.agg #[.int .i64 a0_0, .int .i64 a0_1, .int .i64 a0_2, .int .i64 a0_3], .agg #[.int .i64 x291000_1, .int .i64 x291001_1, .int .i64 x291002_1, .int .i64 x291003_1]] ?_; (with_reducible refine (spec_l02Multiply.calls _ _ _ _ _ _ _ _ _ _ _ _ _ A9.out).mono ?_); rintro e w33 ⟨rfl, hb⟩; refine ⟨_, rfl, ?_⟩; replace BK285 := bB BK285 hb; replace BK290 := bB BK290 hb; replace HB := bS2 HB GE285 GE290 hb; (try clear hb); obtain ⟨hcz34_0, hcz34_1, hcz34_2, hcz34_3, hfz34_0, hfz34_1, hfz34_2, hfz34_3⟩ := bz4 BK290) | ((with_reducible refine gate_callee (f := 50) rfl ?_); refine gl 14 Try.func50 #[.agg #[.int .i64 t291, .int .i64 t292, .int .i64 t293, .int .i64 t294]] ?_; (with_reducible refine (spec_l02Small.calls _ _ _ _ _ _ A10.out).mono ?_); rintro e w35 ⟨rfl, hb⟩; refine ⟨_, rfl, ?_⟩; replace BK285 := asd (blk_below (g := gb285) (o := .cells #[.int .i64 a0_0, .int .i64 a0_1, .int .i64 a0_2, .int .i64 a0_3] 40 (0, 0)) (bq1 BK285 NB285_290) hb); replace BK290 := asd (blk_below (g := gb290) (o := .cells #[.int .i64 t291, .int .i64 t292, .int .i64 t293, .int .i64 t294] 40 (0, 0)) (bq0 BK290) hb); replace HB := bS2 HB GE285 GE290 hb; (try clear hb)))
    go_ret
    exact er (bbw2 HB GE285 GE290)
   all_goals
    try go_wp2_with (first | ((with_reducible refine gate_callee (f := 49) rfl ?_); refine gl 12 Try.func49 #[.agg #[.int .i64 a0_0, .int .i64 a0_1, .int .i64 a0_2, .int .i64 a0_3], .agg #[.int .i64 x291000_1, .int .i64 x291001_1, .int .i64 x291002_1, .int .i64 x291003_1]] ?_; (with_reducible refine (spec_l02Multiply.calls _ _ _ _ _ _ _ _ _ _ _ _ _ A9.out).mono ?_); rintro e w17 ⟨rfl, hb⟩; refine ⟨_, rfl, ?_⟩; replace BK285 := bB BK285 hb; replace BK290 := bB BK290 hb; replace HB := bS2 HB GE285 GE290 hb; (try clear hb); obtain ⟨hcz18_0, hcz18_1, hcz18_2, hcz18_3, hfz18_0, hfz18_1, hfz18_2, hfz18_3⟩ := bz4 BK290) | ((with_reducible refine gate_callee (f := 50) rfl ?_); refine gl 14 Try.func50 #[.agg #[.int .i64 t291, .int .i64 t292, .int .i64 t293, .int .i64 t294]] ?_; (with_reducible refine (spec_l02Small.calls _ _ _ _ _ _ A10.out).mono ?_); rintro e w19 ⟨rfl, hb⟩; refine ⟨_, rfl, ?_⟩; replace BK285 := asd (blk_below (g := gb285) (o := .cells #[.int .i64 a0_0, .int .i64 a0_1, .int .i64 a0_2, .int .i64 a0_3] 40 (0, 0)) (bq1 BK285 NB285_290) hb); replace BK290 := asd (blk_below (g := gb290) (o := .cells #[.int .i64 t291, .int .i64 t292, .int .i64 t293, .int .i64 t294] 40 (0, 0)) (bq0 BK290) hb); replace HB := bS2 HB GE285 GE290 hb; (try clear hb)))
    replace BK285 := asd (blk_drew BK285.out)
    replace BK290 := asd (blk_drew BK290.out)
    replace HB := asd (below_drew1 HB.out)
    refine sh 3 (eb4 BK290) (fun hHeld => ?_)
    generalize w19.drew = w20 at BK285 BK290 HB hHeld ⊢
    refine take_ (i := 0) (N := some 16) (v := ?_) (a' := ?_) (bT 3 1) rfl rfl (by kernel_rfl) (fun _ _ _ h => h) (Or.inl ⟨by rfl, ?_⟩) hHeld ?_ ?_
    rotate_left
    ·rintro w' ⟨s0, s1, s2, s3⟩
     go_simp
     with_reducible rfl
    rotate_left
    ·simp only [Act.put, sA, sB, sC, i64_w, i32_w]
     rfl
    refine one_ (i := 1) (N := some 17) (bT 3 2) rfl rfl (by kernel_rfl) (by decide) (fun K hK => ?_)
    refine gs Try.func48 #[] ?_
    with_reducible refine (spec_l02Unit.calls _ _ _ _ _ A12.out).mono ?_
    rintro e w21 ⟨rfl, hb⟩
    refine ⟨_, rfl, ?_⟩
    replace BK285 := bB BK285 hb
    replace BK290 := bB BK290 hb
    replace HB := bS2 HB GE285 GE290 hb
    (try clear hb)
    (try clear hb2)
    (try clear hk)
    (try clear hi)
    refine hK.out _ _ (eb4 BK290).out (fun hHeld => ?_)
    clear hK K
    refine norm_ (a' := ?_) ?_ ?_
    rotate_left
    ·show Act.put _ (some 17) _ = _
     simp only [Act.put, sA, sB, sC, i64_w, i32_w]
     rfl
    refine pure_ (i := 2) (N := some 18) (v := ?_) (a' := ?_) (bT 3 3) rfl rfl (by kernel_rfl) (fun _ _ _ h => h) (Or.inl ⟨by rfl, ?_⟩) ?_ ?_
    rotate_left
    ·intro w'
     go_simp
     with_reducible rfl
    rotate_left
    ·simp only [Act.put, sA, sB, sC, i64_w, i32_w]
     rfl
    refine done_ (by kernel_rfl) ?_
    try go_wp2
   ·go_ret
    exact er (bbw2 HB GE285 GE290)
   ·go_roundg k1
    case measure => have := HK1.out; omega
    case rel => exact ⟨(wrap64 (x4_1 + 1)), (t291), (t292), (t293), (t294), (by first | rfl | (simp; done) | (simp [*]; done)), H', ⟨by have := HK1.out; omega⟩, ⟨bkp BK285⟩, ⟨bkp BK290⟩, ⟨bbw2 HB GE285 GE290⟩⟩

attribute [local go_sem high] eqA42
/-! ### spec_l01Insert: function 30 -/
def spec_l01Insert.l0 : Nat → List (S42) → Int → Int → Int → Option (Int)
 | 0, _, _, _, _ => none
 | k + 1, x0, x5, x301000, x301001 => if x5 < (x0.length : Int) then (if 0 ≤ x5 then ((spec_l01Less.f ((rd_T42 x0 x5).f0) ((rd_T42 x0 x5).f1) x301000 x301001).bind fun t302 => (if t302 = true then (spec_l01Insert.l0 k x0 (wrap64 (x5 + 1)) x301000 x301001) else (if (((rd_T42 x0 x5).f0) == x301000 && (((rd_T42 x0 x5).f1) == x301001)) = true then (some x5) else (some x5)))) else (none)) else (some x5)
def spec_l01Insert.f (k : Nat) (l0 : List (S42)) (a1_0 : Int) (a1_1 : Int) : Option (Int) := spec_l01Insert.l0 k l0 0 a1_0 a1_1
def spec_l01Insert.T2 : Bool × List (List Nat × List Nat) := (true, [([], []), ([], []), ([1], [1]), ([0, 2], [0, 2]), ([3], [3]), ([4], [4]), ([4], [4]), ([5, 6, 4], [4, 5, 6]), ([7, 4], [4, 7]), ([4], [4]), ([8, 9, 4, 4], [4, 8, 9]), ([4, 10], [4, 10])])
def spec_l01Insert.B2 : List Nat := [0, 0, 2, 7, 15, 31, 31, 127, 255, 31, 1023, 2047]
theorem spec_l01Insert.tab2 : rtab .any (opsOf Try.f30 2) = spec_l01Insert.T2 := by kernel_rfl
theorem spec_l01Insert.bits2 : waitsOk spec_l01Insert.T2.2 spec_l01Insert.B2 = true := by kernel_rfl
def spec_l01Insert.T4 : Bool × List (List Nat × List Nat) := (true, [([], []), ([], []), ([1], [1]), ([0, 2], [0, 2]), ([3], [3]), ([4], [4]), ([4], [4]), ([5, 6, 4], [4, 5, 6]), ([7, 4], [4, 7]), ([4], [4]), ([8, 9, 4], [4, 8, 9]), ([4, 10], [4, 10])])
def spec_l01Insert.B4 : List Nat := [0, 0, 2, 7, 15, 31, 31, 127, 255, 31, 1023, 2047]
theorem spec_l01Insert.tab4 : rtab .any (opsOf Try.f30 4) = spec_l01Insert.T4 := by kernel_rfl
theorem spec_l01Insert.bits4 : waitsOk spec_l01Insert.T4.2 spec_l01Insert.B4 = true := by kernel_rfl
def spec_l01Insert.T6 : Bool × List (List Nat × List Nat) := (true, [([], []), ([], []), ([], []), ([1, 2], [1, 2]), ([0, 3], [0, 3]), ([], []), ([5], [5]), ([4, 6, 4], [4, 6]), ([], []), ([], []), ([8, 9], [8, 9]), ([7, 10, 7], [7, 10]), ([11, 11, 0, 1, 2, 3, 4, 5, 6, 7, 8, 9, 10, 11], [11])])
def spec_l01Insert.B6 : List Nat := [0, 0, 0, 6, 15, 0, 32, 127, 0, 0, 768, 2047, 4095]
theorem spec_l01Insert.tab6 : rtab .any (opsOf Try.f30 6) = spec_l01Insert.T6 := by kernel_rfl
theorem spec_l01Insert.bits6 : waitsOk spec_l01Insert.T6.2 spec_l01Insert.B6 = true := by kernel_rfl
section
variable {P : Program} {ops : Array Oper} {o : Oper} {a : Act} {Q : Exit → Act → World → Prop} {Kc : Act → World → Prop}
theorem spec_l01Insert.lit1 {W : World} (hw : Region.wanted o (yielded ops a.tmps) = true) {N : Tmp} (_hd : o.dst = some N) {cs : Array Value} {t : TypeId}
  (hrun : (execOp a.eval o).run P W = .ok (.value (.slice (some ⟨W.heap.size, 0, none⟩) 1 1)) (W.alloc (.cells cs t (0, 0))))
  (h : ∀ g, g = W.heap.size → ∀ w1, w1.heap[g]? = some (.cells cs t (0, 0)) → Below W.heap.size W w1 → Kc (a.put o.dst (.slice (some ⟨g, 0, none⟩) 1 1)) w1) : if Region.wanted o (yielded ops a.tmps) = true then Oper.wp P o a W Kc Q else Kc (a.put o.dst undef) W :=
 event_step hw hrun (h _ rfl _ (blk_new W _) (below_alloc (Below.refl _ _) _))
end
theorem spec_l01Insert.row1 {W : World} {g : Nat} {x : S42} {fr : Nat × Nat} (h : W.heap[g]? = some (.cells #[.int .i64 x.f0, .int .i64 x.f1] 42 fr)) : ReadsRow (k42.K W) k42.sz W (some ⟨g, 0, none⟩) 1 [x] := by
 refine ⟨rfl, by decide, fun _ => ⟨⟨g, 0, none⟩, rfl, fun j p hp => ?_⟩⟩
 cases j with
 | succ j => simp at hp
 | zero =>
  obtain rfl : x = p := by simpa using hp
  refine ⟨_, rfl, k42_mk W x, fun i u hu => ?_⟩
  have e : (⟨g, 0, none⟩ : Addr).add (0 * k42.sz + i) = ⟨g, i, none⟩ := by
   unfold Addr.add
   split <;> simp_all
  rw [e, cell_of_row W g i _ 42 fr h]
  simpa using hu
theorem spec_l01Insert.cutH (A : Option Addr) (n c : Nat) (t : Int) (h0 : 0 ≤ t) (h : t.toNat ≤ c) : ∀ W : World, (Instr.slice 37 (.slice A n c) none (some (.int .i64 t)) none).run Try.prog W = .ok (.slice A t.toNat c) W := by
 intro W
 have hel : Try.prog.elem 37 = 42 := by simp [Program.elem, Try.underlying37]
 have hu : Try.prog.underlying 37 = some (.slice (Try.prog.elem 37)) := by rw [hel]; exact Try.underlying37
 rw [run_slice_h W 37 A n c hu .i64 t h0 (by omega), hel]
 have e : (A.map fun x => x.add 0) = A := by cases A <;> simp [Addr.add]
 simp only [Try.sizeOf42, Result.andThen, sliced, Int.toNat_natCast, Nat.zero_mul, Nat.sub_zero, e]
 split <;> rfl
theorem spec_l01Insert.cutL (A : Option Addr) (n c : Nat) (t : Int) (h0 : 0 ≤ t) (h : t.toNat ≤ n) (hc : n ≤ c) : ∀ W : World, (Instr.slice 37 (.slice A n c) (some (.int .i64 t)) none none).run Try.prog W = .ok (.slice (if c = t.toNat then A else A.map (·.add (t.toNat * 2))) (n - t.toNat) (c - t.toNat)) W := by
 intro W
 have hel : Try.prog.elem 37 = 42 := by simp [Program.elem, Try.underlying37]
 have hu : Try.prog.underlying 37 = some (.slice (Try.prog.elem 37)) := by rw [hel]; exact Try.underlying37
 rw [run_slice_l W 37 A n c hu .i64 t h0 (by omega), hel]
 simp only [Try.sizeOf42, Result.andThen, sliced, Int.toNat_natCast]
/-- What an insert makes of a list: at place t. -/
def spec_l01Insert.eqB (x y : S42) : Bool := (x.f0 == y.f0 && (x.f1 == y.f1))
def spec_l01Insert.at (l : List S42) (x : S42) (t : Nat) : List S42 := if (decide (t < l.length) && spec_l01Insert.eqB (rd_T42 l (t : Int)) x) = true then l else l.take t ++ [x] ++ l.drop t
set_option maxHeartbeats 8000000 in
set_option maxRecDepth 100000 in
theorem spec_l01Insert.calls (k : Nat) (l0 : List S42) (a1_0 a1_1 : Int) (t333 : Int) (h0 : 0 ≤ t333) (ht : t333.toNat ≤ l0.length) (hl : l0.length < 8796093022208) (h : spec_l01Insert.f k l0 a1_0 a1_1 = some t333) (w : World) (base : Nat) (ok : Nat → Prop) (v : Value) (HR : Kd.R k42 42 w base ok v l0) (hbase : base ≤ w.heap.size) (hfresh : ∀ q, w.heap.size ≤ q → ok q) :
  Calls Try.prog 30 #[v, .agg #[.int .i64 a1_0, .int .i64 a1_1]] w fun e w' => ∃ v1, e = .returned v1 ∧ Kd.R k42 42 w' base ok v1 (spec_l01Insert.at l0 (⟨a1_0, a1_1⟩ : S42) t333.toNat) ∧ Below w.heap.size w w' ∧ (v1.ownBlock = v.ownBlock ∨ ∃ b, v1.ownBlock = some b ∧ w.heap.size ≤ b) := by
 have hu42 := Try.underlying42
 obtain ⟨A0, c0, rfl⟩ := Kd.R_slice HR
 obtain ⟨_, hc0, hr0⟩ := Kd.R_reads' HR
 have HR0 := Aside0.mk hr0
 have HC0 := Aside0.mk hc0
 have HRO := Aside0.mk HR
 have HB := asd (Below.refl w.heap.size w)
 clear HR
 have reads : (∀ W, Below w.heap.size w W → ReadsRow (k42.K W) k42.sz W A0 t333.toNat (l0.take t333.toNat)) ∧ (∀ W, Below w.heap.size w W → ReadsRow (k42.K W) k42.sz W (if c0 = t333.toNat then A0 else A0.map (·.add (t333.toNat * 2))) (l0.length - t333.toNat) (l0.drop t333.toNat)) := by
  refine ⟨fun W hb => ?_, fun W hb => ?_⟩
  ·have := Kd.C_take (Kd.C_below hr0 hb) ht
   rwa [show (l0.take t333.toNat).length = t333.toNat by rw [List.length_take]; omega] at this
  ·have := Kd.C_drop (Kd.C_below hr0 hb) ht hc0
   rwa [show (l0.drop t333.toNat).length = l0.length - t333.toNat from List.length_drop] at this
 have cuth := spec_l01Insert.cutH A0 l0.length c0 t333 h0 (by omega)
 have cutl := spec_l01Insert.cutL A0 l0.length c0 t333 h0 ht hc0
 generalize (if c0 = t333.toNat then A0 else A0.map (·.add (t333.toNat * 2))) = AD at reads cutl
 have lm : l0.length ≤ 8796093022208 := by omega
 have fin : spec_l01Insert.at l0 (⟨a1_0, a1_1⟩ : S42) t333.toNat = l0.take t333.toNat ++ [(⟨a1_0, a1_1⟩ : S42)] ++ l0.drop t333.toNat → ∀ v1 W, Kd.R k42 42 W w.heap.size (fun q => True) v1 ([] ++ l0.take t333.toNat ++ [(⟨a1_0, a1_1⟩ : S42)] ++ l0.drop t333.toNat) → Below w.heap.size w W → ∃ v2, Ending.returned v1 = .returned v2 ∧ Kd.R k42 42 W base ok v2 (spec_l01Insert.at l0 (⟨a1_0, a1_1⟩ : S42) t333.toNat) ∧ Below w.heap.size w W ∧ (v2.ownBlock = (Value.slice A0 l0.length c0).ownBlock ∨ ∃ b, v2.ownBlock = some b ∧ w.heap.size ≤ b) := by
  intro he v1 W h1 h2
  refine ⟨v1, rfl, ?_, h2, ?_⟩
  ·rw [he]
   exact Kd.R_lower (Kd.R_mono (Kd.R_bound h1) (fun q hq => hfresh q hq.2.1)) hbase
  ·obtain ⟨A1, c1, rfl⟩ := Kd.R_slice h1
   cases A1 with
   | none =>
    exfalso
    obtain ⟨_, _, hr⟩ := Kd.R_reads' h1
    obtain ⟨ad, e, _⟩ := hr.2.2 (by simp only [List.length_append, List.length_cons]; omega)
    cases e
   | some ad =>
    right
    refine ⟨ad.block, rfl, ?_⟩
    exact ((Kd.R_bound h1).1 ad.block rfl).2.1
 have RDa := Aside0.mk reads
 have CHa := Aside0.mk cuth
 have CLa := Aside0.mk cutl
 have FNa := Aside0.mk fin
 have LMa := Aside0.mk lm
 clear reads cuth cutl fin lm
 have H : (spec_l01Insert.l0 k l0 0 a1_0 a1_1) = some t333 := h
 clear h
 have H' := Aside0.mk H
 clear H
 go_enter Try.func30, Try.ntmps30
 go_wp2_with (first | ((with_reducible refine gd 3 rfl ?_); refine bx #[.int .i64 a1_0, .int .i64 a1_1] 42 ?_; intro gb300 hg w3 BK300 hb; have GE300 := ngw0 hg HB; replace HB := bS0 HB hb; clear hb hg))
 go_loopg [5] k (fun kq v5 w' => ∃ (x5_1 : Int), v5 = .int .i64 x5_1 ∧ Aside0 (spec_l01Insert.l0 kq l0 x5_1 a1_0 a1_1 = some t333) ∧ Aside0 (kq ≤ k) ∧ Aside0 (w'.heap[gb300]? = some (.cells #[.int .i64 a1_0, .int .i64 a1_1] 42 (0, 0))) ∧ Aside0 (Below w.heap.size w w'))
 case atStart => exact ⟨(0), (by first | rfl | (simp; done) | (simp [*]; done)), H', ⟨Nat.le_refl _⟩, ⟨bkp BK300⟩, ⟨bbw1 HB GE300⟩⟩
 case round =>
  clear H'
  try clear p2
  try clear c3
  obtain ⟨x5_1, rfl, HA, HK1, BK300, HB⟩ := hrel
  cases gk with
  | zero => exact absurd HA.out (by simp [spec_l01Insert.l0])
  | succ k1 =>
   have H := HA.out
   clear HA
   simp only [spec_l01Insert.l0] at H
   by_cases c4 : x5_1 < (l0.length : Int)
   rw [if_pos c4] at H
   have c4b0 := decide_eq_true c4
   clear c4
   by_cases c5 : 0 ≤ x5_1
   rw [if_pos c5] at H
   have c5b0 := decide_eq_true c5
   clear c5
   obtain ⟨t302, A6, H⟩ := ob H
   try dsimp only at H
   by_cases c7 : t302 = true
   subst c7
   replace H := ifT H
   have H' := Aside0.mk H
   clear H
   rotate_left
   replace c7 := Bool.eq_false_iff.mpr c7
   subst c7
   replace H := ifF H
   by_cases c10 : (((rd_T42 l0 x5_1).f0) == a1_0 && (((rd_T42 l0 x5_1).f1) == a1_1)) = true
   rw [if_pos c10] at H
   have c10b0 := c10
   (try (have c10b1 : decide (((rd_T42 l0 x5_1).f0) = a1_0 && (((rd_T42 l0 x5_1).f1) == a1_1)) = true := by simpa using c10))
   (try (have c10b2 : (((rd_T42 l0 x5_1).f0) == a1_0 && (((rd_T42 l0 x5_1).f1) == a1_1)) = true := by simpa using c10))
   clear c10
   obtain rfl := Option.some.inj H
   rotate_left
   rw [if_neg c10] at H
   have c10b0 : (((rd_T42 l0 x5_1).f0) == a1_0 && (((rd_T42 l0 x5_1).f1) == a1_1)) = false := by simpa using c10
   (try (have c10b1 : decide (((rd_T42 l0 x5_1).f0) = a1_0 && (((rd_T42 l0 x5_1).f1) == a1_1)) = false := by simpa using c10))
   (try (have c10b2 : (((rd_T42 l0 x5_1).f0) == a1_0 && (((rd_T42 l0 x5_1).f1) == a1_1)) = false := by simpa using c10))
   (try (have c10b3 : ¬ (((rd_T42 l0 x5_1).f0) = a1_0 && (((rd_T42 l0 x5_1).f1) == a1_1)) := by simpa using c10))
   clear c10
   obtain rfl := Option.some.inj H
   rotate_left
   ·rw [if_neg c5] at H
    exact absurd H (by simp)
   rw [if_neg c4] at H
   have c4b0 := decide_eq_false c4
   clear c4
   obtain rfl := Option.some.inj H
   rotate_left
   all_goals
    try go_wp2
    replace BK300 := asd (blk_drew BK300.out)
    replace HB := asd (below_drew1 HB.out)
   rotate_left 3
   ·refine start_ (n := 12) (S := fun w' => True) (ds := []) (bT 12 0) (by kernel_rfl) rfl rfl trivial (fun hHeld => ?_); refine with_tabW spec_l01Insert.tab2 spec_l01Insert.bits2 (fun HT_ HW_ => ?_)
    generalize wr.drew = w17 at BK300 HB hHeld ⊢
    refine pu 0 (some 6) (bT 12 1) HT_ ?_
    refine pu 1 (some 7) (bT 12 2) HT_ ?_
    refine pu 2 (some 8) (bT 12 3) HT_ ?_
    refine pu 3 (some 9) (bT 12 4) HT_ ?_
    refine pu 4 (some 10) (bT 12 5) HT_ ?_
    refine pf 5 (some 11) (bT 12 6) HT_ ?_
    refine pf 6 (some 12) (bT 12 7) HT_ ?_
    refine pf 7 (some 13) (bT 12 8) HT_ ?_
    refine pf 8 (some 14) (bT 12 9) HT_ ?_
    refine pf 9 (some 15) (bT 12 10) HT_ ?_
    refine pf 10 (some 16) (bT 12 11) HT_ ?_
    refine pu 11 (some 17) (bT 12 12) HT_ ?_
    refine done_ (done_of HT_.out (by kernel_rfl)) ?_
    try go_wp2
    replace BK300 := asd (blk_drew BK300.out)
    replace HB := asd (below_drew1 HB.out)
    refine start_ (n := 12) (S := fun w' => True) (ds := []) (bT 12 0) (by kernel_rfl) rfl rfl trivial (fun hHeld => ?_); refine with_tabW spec_l01Insert.tab4 spec_l01Insert.bits4 (fun HT_ HW_ => ?_)
    generalize w17.drew = w18 at BK300 HB hHeld ⊢
    refine pu 0 (some 20) (bT 12 1) HT_ ?_
    refine pu 1 (some 21) (bT 12 2) HT_ ?_
    refine pu 2 (some 22) (bT 12 3) HT_ ?_
    refine pu 3 (some 23) (bT 12 4) HT_ ?_
    refine pu 4 (some 24) (bT 12 5) HT_ ?_
    refine pf 5 (some 25) (bT 12 6) HT_ ?_
    refine pf 6 (some 26) (bT 12 7) HT_ ?_
    refine pf 7 (some 27) (bT 12 8) HT_ ?_
    refine pf 8 (some 28) (bT 12 9) HT_ ?_
    refine pf 9 (some 29) (bT 12 10) HT_ ?_
    refine pf 10 (some 30) (bT 12 11) HT_ ?_
    refine pu 11 (some 31) (bT 12 12) HT_ ?_
    refine done_ (done_of HT_.out (by kernel_rfl)) ?_
    try go_wp2
    have he : spec_l01Insert.at l0 (⟨a1_0, a1_1⟩ : S42) x5_1.toNat = l0.take x5_1.toNat ++ [(⟨a1_0, a1_1⟩ : S42)] ++ l0.drop x5_1.toNat := by unfold spec_l01Insert.at; rw [if_neg (by rw [Bool.and_eq_true]; rintro ⟨h, _⟩; have := of_decide_eq_true h; have := of_decide_eq_false c4b0; omega)]
    have fin := FNa.out he
    have cuth := CHa.out
    have cutl := CLa.out
    have lm : l0.length ≤ 8796093022208 := LMa.out
    clear he FNa CHa CLa
    have n0_ := asd (blk_drew BK300.out)
    have n1_ := asd (below_drew1 HB.out)
    clear BK300 HB
    have BK300 := n0_
    have HB := n1_
    clear n0_ n1_
    obtain ⟨rt, rd_⟩ := RDa.out
    clear RDa
    refine sh 13 (eb2 BK300) (fun hHeld => ?_)
    refine with_tabW spec_l01Insert.tab6 spec_l01Insert.bits6 (fun HT_ HW_ => ?_)
    generalize w18.drew = w41 at BK300 HB hHeld ⊢
    refine pure_ (i := 1) (N := some 34) (v := ?_) (a' := ?_) (bs 13 2) rfl rfl (any_of HT_.out (by kernel_rfl)) (fun _ _ _ h => h) (Or.inl ⟨by rfl, ?_⟩) ?_ ?_
    rotate_left
    ·intro w'
     go_simp; with_reducible rfl
    rotate_left
    ·simp only [Act.put, sA, sB, sC, i64_w, i32_w]
     rfl
    refine pure_ (i := 2) (N := some 35) (v := ?_) (a' := ?_) (bs 13 6) rfl rfl (any_of HT_.out (by kernel_rfl)) (fun _ _ _ h => h) (Or.inl ⟨by rfl, ?_⟩) ?_ ?_
    rotate_left
    ·intro w'
     go_simp; with_reducible rfl
    rotate_left
    ·simp only [Act.put, sA, sB, sC, i64_w, i32_w]
     rfl
    refine pure_ (i := 3) (N := some 36) (v := ?_) (a' := ?_) (bs 13 14) rfl rfl (any_of HT_.out (by kernel_rfl)) (fun _ _ _ h => h) (Or.inl ⟨by rfl, ?_⟩) ?_ ?_
    rotate_left
    ·intro w'
     go_simp; with_reducible rfl
    rotate_left
    ·simp only [Act.put, sA, sB, sC, i64_w, i32_w]
     rfl
    refine ta 5 (some 38) (bs 13 46) HT_ HW_ hHeld ?_
    refine pure_ (i := 8) (N := some 41) (v := ?_) (a' := ?_) (bs 13 302) rfl rfl (any_of HT_.out (by kernel_rfl)) (fun _ _ _ h => h) (Or.inl ⟨by rfl, ?_⟩) ?_ ?_
    rotate_left
    ·intro w'
     go_simp; with_reducible rfl
    rotate_left
    ·simp only [Act.put, sA, sB, sC, i64_w, i32_w]
     rfl
    refine pure_ (i := 9) (N := some 42) (v := ?_) (a' := ?_) (bs 13 814) rfl rfl (any_of HT_.out (by kernel_rfl)) (fun _ _ _ h => h) (Or.inl ⟨by rfl, ?_⟩) ?_ ?_
    rotate_left
    ·intro w'
     go_simp; with_reducible rfl
    rotate_left
    ·simp only [Act.put, sA, sB, sC, i64_w, i32_w]
     rfl
    refine pure_ (i := 10) (N := some 43) (v := ?_) (a' := ?_) (bs 13 1838) rfl rfl (any_of HT_.out (by kernel_rfl)) (fun _ _ _ h => h) (Or.inl ⟨by rfl, ?_⟩) ?_ ?_
    rotate_left
    ·intro w'
     go_simp; with_reducible rfl
    rotate_left
    ·simp only [Act.put, sA, sB, sC, i64_w, i32_w]
     rfl
    refine two_ (i := 0) (j := 6) (Ni := some 33) (Nj := some 39) (bs 13 1839) #[false, true, true, true, false, true, true, false, true, true, true, false, false] rfl rfl rfl rfl (two_of HT_.out (by kernel_rfl)) (by decide) (by decide) ?_ ?_
    ·intro K hK
     refine Kd.R_lit_step k42 (w0 := w) w.heap.size 42 (by rfl) (N := 33) rfl (xs := ([] : List S42)) (inner := []) (ok := (fun k_ => k_ ≠ gb300)) (okp := fun _ => False) (by first | (go_simp; done) | (go_simp; rfl)) ⟨rfl, fun j p hp => by cases hp⟩ (fun _ h => h.elim) (Nat.ne_of_gt (blk_lt BK300.out)) HB.out (below_size HB.out) (by decide) ?_
     intro v22 w1 ho hb hg hat
     have n0_ := asd (blk_grown BK300.out hg (by simp))
     have n2_ := Aside0.mk hb
     have n3_ := Aside0.mk ho
     clear BK300 HB ho hb hg hat
     have BK300 := n0_
     have HB := n2_
     have HO := n3_
     clear n0_ n2_ n3_
     refine hK.out _ _ (eb2 BK300).out (fun hHeld => ?_)
     clear hK K
     refine norm_ (a' := ?_) ?_ ?_
     rotate_left
     ·show Act.put _ (some 33) _ = _
      simp only [Act.put, sA, sB, sC, i64_w, i32_w]
      rfl
     refine two_ (i := 4) (j := 6) (Ni := some 37) (Nj := some 39) (bs 13 1855) #[true, true, true, true, false, true, true, false, true, true, true, false, false] rfl rfl rfl rfl (two_of HT_.out (by kernel_rfl)) (by decide) (by decide) ?_ ?_
     ·intro K hK
      refine Kd.R_append_rows_step k42 (Rr := k42.K _) (w0 := w) w.heap.size (by rfl) (.tmp 33) (.tmp 36) 37 42 (.agg #[(.int .i64 0), (.int .i64 0)]) 16 rfl Try.underlying37 info42 rfl (by decide) (by omega) v22 [] (l0.take x5_1.toNat) _ _ _ (fun k_ => k_ ≠ gb300) (fun _ => False) rfl rfl HO.out (rt _ HB.out) (fun x cs h => by obtain rfl := k42_open h; exact k42_mkM _ _ _ x) (fun _ hk => hk.elim) (fun k_ hk => (by have := blk_lt BK300.out; omega)) HB.out (below_size HB.out) (by simp only [List.nil_append, List.length_append, List.length_nil, List.length_cons, List.length_take, List.length_drop]; omega) ?_
      intro v26 w1 ho hb hg hat
      have n0_ := asd (blk_grown BK300.out hg (Kd.R_away HO.out (fun _ h => h)))
      have n2_ := Aside0.mk hb
      have n3_ := Aside0.mk ho
      clear BK300 HB ho hb hg hat HO
      have BK300 := n0_
      have HB := n2_
      have HO := n3_
      clear n0_ n2_ n3_
      refine hK.out _ _ (eb2 BK300).out (fun hHeld => ?_)
      clear hK K
      refine norm_ (a' := ?_) ?_ ?_
      rotate_left
      ·show Act.put _ (some 37) _ = _
       simp only [Act.put, sA, sB, sC, i64_w, i32_w]
       rfl
      refine ro 6 (some 39) (bs 13 1919) HT_ (fun K hK => ?_)
      refine spec_l01Insert.lit1 (by rfl) (N := 39) rfl (cs := #[.int .i64 a1_0, .int .i64 a1_1]) (t := 42) (by first | (go_simp; done) | (go_simp; rfl)) ?_
      intro gb6 hg6 w1 hbox hb
      have n3_ := asd (Kd.R_below (Kd.R_mono (Kd.R_elderB HO.out gb6 (Nat.le_of_eq hg6.symm)) (fun _ h => h) : Kd.R k42 42 _ w.heap.size (fun k_ => k_ ≠ gb300 ∧ k_ ≠ gb6) _ _) hb)
      have n0_ := asd (blk_below BK300.out hb)
      have n1_ := asd (below_step HB.out hb)
      have n2_ := Aside0.mk hbox
      have GE6 := asd (by have := blk_lt BK300.out; omega : gb300 ≠ gb6)
      clear BK300 HB hbox hb hg6 HO
      have BK300 := n0_
      have HB := n1_
      have BK6 := n2_
      have HO := n3_
      clear n3_
      clear n0_ n1_ n2_
      refine hK.out _ _ (eb2 BK300).out (fun hHeld => ?_)
      clear hK K
      refine norm_ (a' := ?_) ?_ ?_
      rotate_left
      ·show Act.put _ (some 39) _ = _
       simp only [Act.put, sA, sB, sC, i64_w, i32_w]
       rfl
      refine ro 7 (some 40) (bT 13 11) HT_ (fun K hK => ?_)
      refine Kd.R_append_rows_step k42 (Rr := k42.K _) (w0 := w) w.heap.size (by rfl) (.tmp 37) (.tmp 39) 37 42 (.agg #[(.int .i64 0), (.int .i64 0)]) 16 rfl Try.underlying37 info42 rfl (by decide) (by omega) v26 ([] ++ l0.take x5_1.toNat) [(⟨a1_0, a1_1⟩ : S42)] _ _ _ (fun k_ => k_ ≠ gb300 ∧ k_ ≠ gb6) (fun _ => False) rfl rfl HO.out (spec_l01Insert.row1 BK6.out) (fun x cs h => by obtain rfl := k42_open h; exact k42_mkM _ _ _ x) (fun _ hk => hk.elim) (fun k_ hk => ⟨by have := blk_lt BK300.out; omega, by have := blk_lt BK6.out; omega⟩) HB.out (below_size HB.out) (by simp only [List.nil_append, List.length_append, List.length_nil, List.length_cons, List.length_take, List.length_drop]; omega) ?_
      intro v29 w1 ho hb hg hat
      have n0_ := asd (blk_grown BK300.out hg (Kd.R_away HO.out (fun _ h => h.1)))
      have n1_ := asd (blk_grown BK6.out hg (Kd.R_away HO.out (fun _ h => h.2)))
      have n2_ := Aside0.mk hb
      have n3_ := Aside0.mk ho
      clear BK300 HB ho hb hg hat BK6 HO
      have BK300 := n0_
      have HB := n2_
      have HO := n3_
      have BK6 := n1_
      clear n1_
      clear n0_ n2_ n3_
      refine hK.out _ _ (eb2 BK300).out (fun hHeld => ?_)
      clear hK K
      refine norm_ (a' := ?_) ?_ ?_
      rotate_left
      ·show Act.put _ (some 40) _ = _
       simp only [Act.put, sA, sB, sC, i64_w, i32_w]
       rfl
      refine ro 11 (some 44) (bT 13 12) HT_ (fun K hK => ?_)
      refine Kd.R_append_rows_step k42 (Rr := k42.K _) (w0 := w) w.heap.size (by rfl) (.tmp 40) (.tmp 43) 37 42 (.agg #[(.int .i64 0), (.int .i64 0)]) 16 rfl Try.underlying37 info42 rfl (by decide) (by omega) v29 ([] ++ l0.take x5_1.toNat ++ [(⟨a1_0, a1_1⟩ : S42)]) (l0.drop x5_1.toNat) _ _ _ (fun k_ => k_ ≠ gb300 ∧ k_ ≠ gb6) (fun _ => False) rfl rfl HO.out (rd_ _ HB.out) (fun x cs h => by obtain rfl := k42_open h; exact k42_mkM _ _ _ x) (fun _ hk => hk.elim) (fun k_ hk => ⟨by have := blk_lt BK300.out; omega, by have := blk_lt BK6.out; omega⟩) HB.out (below_size HB.out) (by simp only [List.nil_append, List.length_append, List.length_nil, List.length_cons, List.length_take, List.length_drop]; omega) ?_
      intro v33 w1 ho hb hg hat
      have n0_ := asd (blk_grown BK300.out hg (Kd.R_away HO.out (fun _ h => h.1)))
      have n1_ := asd (blk_grown BK6.out hg (Kd.R_away HO.out (fun _ h => h.2)))
      have n2_ := Aside0.mk hb
      have n3_ := Aside0.mk ho
      clear BK300 HB ho hb hg hat BK6 HO
      have BK300 := n0_
      have HB := n2_
      have HO := n3_
      have BK6 := n1_
      clear n1_
      clear n0_ n2_ n3_
      refine hK.out _ _ (eb2 BK300).out (fun hHeld => ?_)
      clear hK K
      refine norm_ (a' := ?_) ?_ ?_
      rotate_left
      ·show Act.put _ (some 44) _ = _
       simp only [Act.put, sA, sB, sC, i64_w, i32_w]
       rfl
      refine pure_ (i := 12) (N := some 4) (v := ?_) (a' := ?_) (bT 13 13) rfl rfl (any_of HT_.out (by kernel_rfl)) (fun _ _ _ h => h) (Or.inl ⟨by rfl, ?_⟩) ?_ ?_
      rotate_left
      ·intro w'
       go_simp; with_reducible rfl
      rotate_left
      ·simp only [Act.put, sA, sB, sC, i64_w, i32_w]
       rfl
      refine done_ (done_of HT_.out (by kernel_rfl)) ?_
      try go_wp2
      all_goals (go_ret; obtain ⟨v2, he2, h2⟩ := fin _ _ (Kd.R_mono HO.out (fun _ _ => trivial)) HB.out; cases he2; exact ⟨_, rfl, h2⟩)
     ·intro K hK
      refine spec_l01Insert.lit1 (by rfl) (N := 39) rfl (cs := #[.int .i64 a1_0, .int .i64 a1_1]) (t := 42) (by first | (go_simp; done) | (go_simp; rfl)) ?_
      intro gb6 hg6 w1 hbox hb
      have n3_ := asd (Kd.R_below (Kd.R_mono (Kd.R_elderB HO.out gb6 (Nat.le_of_eq hg6.symm)) (fun _ h => h) : Kd.R k42 42 _ w.heap.size (fun k_ => k_ ≠ gb300 ∧ k_ ≠ gb6) _ _) hb)
      have n0_ := asd (blk_below BK300.out hb)
      have n1_ := asd (below_step HB.out hb)
      have n2_ := Aside0.mk hbox
      have GE6 := asd (by have := blk_lt BK300.out; omega : gb300 ≠ gb6)
      clear BK300 HB hbox hb hg6 HO
      have BK300 := n0_
      have HB := n1_
      have BK6 := n2_
      have HO := n3_
      clear n3_
      clear n0_ n1_ n2_
      refine hK.out _ _ (eb2 BK300).out (fun hHeld => ?_)
      clear hK K
      refine norm_ (a' := ?_) ?_ ?_
      rotate_left
      ·show Act.put _ (some 39) _ = _
       simp only [Act.put, sA, sB, sC, i64_w, i32_w]
       rfl
      refine ro 4 (some 37) (bs 13 1919) HT_ (fun K hK => ?_)
      refine Kd.R_append_rows_step k42 (Rr := k42.K _) (w0 := w) w.heap.size (by rfl) (.tmp 33) (.tmp 36) 37 42 (.agg #[(.int .i64 0), (.int .i64 0)]) 16 rfl Try.underlying37 info42 rfl (by decide) (by omega) v22 [] (l0.take x5_1.toNat) _ _ _ (fun k_ => k_ ≠ gb300 ∧ k_ ≠ gb6) (fun _ => False) rfl rfl HO.out (rt _ HB.out) (fun x cs h => by obtain rfl := k42_open h; exact k42_mkM _ _ _ x) (fun _ hk => hk.elim) (fun k_ hk => ⟨by have := blk_lt BK300.out; omega, by have := blk_lt BK6.out; omega⟩) HB.out (below_size HB.out) (by simp only [List.nil_append, List.length_append, List.length_nil, List.length_cons, List.length_take, List.length_drop]; omega) ?_
      intro v26 w1 ho hb hg hat
      have n0_ := asd (blk_grown BK300.out hg (Kd.R_away HO.out (fun _ h => h.1)))
      have n1_ := asd (blk_grown BK6.out hg (Kd.R_away HO.out (fun _ h => h.2)))
      have n2_ := Aside0.mk hb
      have n3_ := Aside0.mk ho
      clear BK300 HB ho hb hg hat BK6 HO
      have BK300 := n0_
      have HB := n2_
      have HO := n3_
      have BK6 := n1_
      clear n1_
      clear n0_ n2_ n3_
      refine hK.out _ _ (eb2 BK300).out (fun hHeld => ?_)
      clear hK K
      refine norm_ (a' := ?_) ?_ ?_
      rotate_left
      ·show Act.put _ (some 37) _ = _
       simp only [Act.put, sA, sB, sC, i64_w, i32_w]
       rfl
      refine ro 7 (some 40) (bT 13 11) HT_ (fun K hK => ?_)
      refine Kd.R_append_rows_step k42 (Rr := k42.K _) (w0 := w) w.heap.size (by rfl) (.tmp 37) (.tmp 39) 37 42 (.agg #[(.int .i64 0), (.int .i64 0)]) 16 rfl Try.underlying37 info42 rfl (by decide) (by omega) v26 ([] ++ l0.take x5_1.toNat) [(⟨a1_0, a1_1⟩ : S42)] _ _ _ (fun k_ => k_ ≠ gb300 ∧ k_ ≠ gb6) (fun _ => False) rfl rfl HO.out (spec_l01Insert.row1 BK6.out) (fun x cs h => by obtain rfl := k42_open h; exact k42_mkM _ _ _ x) (fun _ hk => hk.elim) (fun k_ hk => ⟨by have := blk_lt BK300.out; omega, by have := blk_lt BK6.out; omega⟩) HB.out (below_size HB.out) (by simp only [List.nil_append, List.length_append, List.length_nil, List.length_cons, List.length_take, List.length_drop]; omega) ?_
      intro v29 w1 ho hb hg hat
      have n0_ := asd (blk_grown BK300.out hg (Kd.R_away HO.out (fun _ h => h.1)))
      have n1_ := asd (blk_grown BK6.out hg (Kd.R_away HO.out (fun _ h => h.2)))
      have n2_ := Aside0.mk hb
      have n3_ := Aside0.mk ho
      clear BK300 HB ho hb hg hat BK6 HO
      have BK300 := n0_
      have HB := n2_
      have HO := n3_
      have BK6 := n1_
      clear n1_
      clear n0_ n2_ n3_
      refine hK.out _ _ (eb2 BK300).out (fun hHeld => ?_)
      clear hK K
      refine norm_ (a' := ?_) ?_ ?_
      rotate_left
      ·show Act.put _ (some 40) _ = _
       simp only [Act.put, sA, sB, sC, i64_w, i32_w]
       rfl
      refine ro 11 (some 44) (bT 13 12) HT_ (fun K hK => ?_)
      refine Kd.R_append_rows_step k42 (Rr := k42.K _) (w0 := w) w.heap.size (by rfl) (.tmp 40) (.tmp 43) 37 42 (.agg #[(.int .i64 0), (.int .i64 0)]) 16 rfl Try.underlying37 info42 rfl (by decide) (by omega) v29 ([] ++ l0.take x5_1.toNat ++ [(⟨a1_0, a1_1⟩ : S42)]) (l0.drop x5_1.toNat) _ _ _ (fun k_ => k_ ≠ gb300 ∧ k_ ≠ gb6) (fun _ => False) rfl rfl HO.out (rd_ _ HB.out) (fun x cs h => by obtain rfl := k42_open h; exact k42_mkM _ _ _ x) (fun _ hk => hk.elim) (fun k_ hk => ⟨by have := blk_lt BK300.out; omega, by have := blk_lt BK6.out; omega⟩) HB.out (below_size HB.out) (by simp only [List.nil_append, List.length_append, List.length_nil, List.length_cons, List.length_take, List.length_drop]; omega) ?_
      intro v33 w1 ho hb hg hat
      have n0_ := asd (blk_grown BK300.out hg (Kd.R_away HO.out (fun _ h => h.1)))
      have n1_ := asd (blk_grown BK6.out hg (Kd.R_away HO.out (fun _ h => h.2)))
      have n2_ := Aside0.mk hb
      have n3_ := Aside0.mk ho
      clear BK300 HB ho hb hg hat BK6 HO
      have BK300 := n0_
      have HB := n2_
      have HO := n3_
      have BK6 := n1_
      clear n1_
      clear n0_ n2_ n3_
      refine hK.out _ _ (eb2 BK300).out (fun hHeld => ?_)
      clear hK K
      refine norm_ (a' := ?_) ?_ ?_
      rotate_left
      ·show Act.put _ (some 44) _ = _
       simp only [Act.put, sA, sB, sC, i64_w, i32_w]
       rfl
      refine pure_ (i := 12) (N := some 4) (v := ?_) (a' := ?_) (bT 13 13) rfl rfl (any_of HT_.out (by kernel_rfl)) (fun _ _ _ h => h) (Or.inl ⟨by rfl, ?_⟩) ?_ ?_
      rotate_left
      ·intro w'
       go_simp; with_reducible rfl
      rotate_left
      ·simp only [Act.put, sA, sB, sC, i64_w, i32_w]
       rfl
      refine done_ (done_of HT_.out (by kernel_rfl)) ?_
      try go_wp2
      all_goals (go_ret; obtain ⟨v2, he2, h2⟩ := fin _ _ (Kd.R_mono HO.out (fun _ _ => trivial)) HB.out; cases he2; exact ⟨_, rfl, h2⟩)
    ·intro K hK
     refine spec_l01Insert.lit1 (by rfl) (N := 39) rfl (cs := #[.int .i64 a1_0, .int .i64 a1_1]) (t := 42) (by first | (go_simp; done) | (go_simp; rfl)) ?_
     intro gb6 hg6 w1 hbox hb
     have n0_ := asd (blk_below BK300.out hb)
     have n1_ := asd (below_step HB.out hb)
     have n2_ := Aside0.mk hbox
     have GE6 := asd (by have := blk_lt BK300.out; omega : gb300 ≠ gb6)
     clear BK300 HB hbox hb hg6
     have BK300 := n0_
     have HB := n1_
     have BK6 := n2_
     clear n0_ n1_ n2_
     refine hK.out _ _ (eb2 BK300).out (fun hHeld => ?_)
     clear hK K
     refine norm_ (a' := ?_) ?_ ?_
     rotate_left
     ·show Act.put _ (some 39) _ = _
      simp only [Act.put, sA, sB, sC, i64_w, i32_w]
      rfl
     refine ro 0 (some 33) (bs 13 1903) HT_ (fun K hK => ?_)
     refine Kd.R_lit_step k42 (w0 := w) w.heap.size 42 (by rfl) (N := 33) rfl (xs := ([] : List S42)) (inner := []) (ok := (fun k_ => k_ ≠ gb300 ∧ k_ ≠ gb6)) (okp := fun _ => False) (by first | (go_simp; done) | (go_simp; rfl)) ⟨rfl, fun j p hp => by cases hp⟩ (fun _ h => h.elim) (by have h1 := blk_lt BK300.out; have h2 := blk_lt BK6.out; exact ⟨Nat.ne_of_gt h1, Nat.ne_of_gt h2⟩) HB.out (below_size HB.out) (by decide) ?_
     intro v22 w1 ho hb hg hat
     have n0_ := asd (blk_grown BK300.out hg (by simp))
     have n1_ := asd (blk_grown BK6.out hg (by simp))
     have n2_ := Aside0.mk hb
     have n3_ := Aside0.mk ho
     clear BK300 HB ho hb hg hat BK6
     have BK300 := n0_
     have HB := n2_
     have HO := n3_
     have BK6 := n1_
     clear n1_
     clear n0_ n2_ n3_
     refine hK.out _ _ (eb2 BK300).out (fun hHeld => ?_)
     clear hK K
     refine norm_ (a' := ?_) ?_ ?_
     rotate_left
     ·show Act.put _ (some 33) _ = _
      simp only [Act.put, sA, sB, sC, i64_w, i32_w]
      rfl
     refine ro 4 (some 37) (bs 13 1919) HT_ (fun K hK => ?_)
     refine Kd.R_append_rows_step k42 (Rr := k42.K _) (w0 := w) w.heap.size (by rfl) (.tmp 33) (.tmp 36) 37 42 (.agg #[(.int .i64 0), (.int .i64 0)]) 16 rfl Try.underlying37 info42 rfl (by decide) (by omega) v22 [] (l0.take x5_1.toNat) _ _ _ (fun k_ => k_ ≠ gb300 ∧ k_ ≠ gb6) (fun _ => False) rfl rfl HO.out (rt _ HB.out) (fun x cs h => by obtain rfl := k42_open h; exact k42_mkM _ _ _ x) (fun _ hk => hk.elim) (fun k_ hk => ⟨by have := blk_lt BK300.out; omega, by have := blk_lt BK6.out; omega⟩) HB.out (below_size HB.out) (by simp only [List.nil_append, List.length_append, List.length_nil, List.length_cons, List.length_take, List.length_drop]; omega) ?_
     intro v26 w1 ho hb hg hat
     have n0_ := asd (blk_grown BK300.out hg (Kd.R_away HO.out (fun _ h => h.1)))
     have n1_ := asd (blk_grown BK6.out hg (Kd.R_away HO.out (fun _ h => h.2)))
     have n2_ := Aside0.mk hb
     have n3_ := Aside0.mk ho
     clear BK300 HB ho hb hg hat BK6 HO
     have BK300 := n0_
     have HB := n2_
     have HO := n3_
     have BK6 := n1_
     clear n1_
     clear n0_ n2_ n3_
     refine hK.out _ _ (eb2 BK300).out (fun hHeld => ?_)
     clear hK K
     refine norm_ (a' := ?_) ?_ ?_
     rotate_left
     ·show Act.put _ (some 37) _ = _
      simp only [Act.put, sA, sB, sC, i64_w, i32_w]
      rfl
     refine ro 7 (some 40) (bT 13 11) HT_ (fun K hK => ?_)
     refine Kd.R_append_rows_step k42 (Rr := k42.K _) (w0 := w) w.heap.size (by rfl) (.tmp 37) (.tmp 39) 37 42 (.agg #[(.int .i64 0), (.int .i64 0)]) 16 rfl Try.underlying37 info42 rfl (by decide) (by omega) v26 ([] ++ l0.take x5_1.toNat) [(⟨a1_0, a1_1⟩ : S42)] _ _ _ (fun k_ => k_ ≠ gb300 ∧ k_ ≠ gb6) (fun _ => False) rfl rfl HO.out (spec_l01Insert.row1 BK6.out) (fun x cs h => by obtain rfl := k42_open h; exact k42_mkM _ _ _ x) (fun _ hk => hk.elim) (fun k_ hk => ⟨by have := blk_lt BK300.out; omega, by have := blk_lt BK6.out; omega⟩) HB.out (below_size HB.out) (by simp only [List.nil_append, List.length_append, List.length_nil, List.length_cons, List.length_take, List.length_drop]; omega) ?_
     intro v29 w1 ho hb hg hat
     have n0_ := asd (blk_grown BK300.out hg (Kd.R_away HO.out (fun _ h => h.1)))
     have n1_ := asd (blk_grown BK6.out hg (Kd.R_away HO.out (fun _ h => h.2)))
     have n2_ := Aside0.mk hb
     have n3_ := Aside0.mk ho
     clear BK300 HB ho hb hg hat BK6 HO
     have BK300 := n0_
     have HB := n2_
     have HO := n3_
     have BK6 := n1_
     clear n1_
     clear n0_ n2_ n3_
     refine hK.out _ _ (eb2 BK300).out (fun hHeld => ?_)
     clear hK K
     refine norm_ (a' := ?_) ?_ ?_
     rotate_left
     ·show Act.put _ (some 40) _ = _
      simp only [Act.put, sA, sB, sC, i64_w, i32_w]
      rfl
     refine ro 11 (some 44) (bT 13 12) HT_ (fun K hK => ?_)
     refine Kd.R_append_rows_step k42 (Rr := k42.K _) (w0 := w) w.heap.size (by rfl) (.tmp 40) (.tmp 43) 37 42 (.agg #[(.int .i64 0), (.int .i64 0)]) 16 rfl Try.underlying37 info42 rfl (by decide) (by omega) v29 ([] ++ l0.take x5_1.toNat ++ [(⟨a1_0, a1_1⟩ : S42)]) (l0.drop x5_1.toNat) _ _ _ (fun k_ => k_ ≠ gb300 ∧ k_ ≠ gb6) (fun _ => False) rfl rfl HO.out (rd_ _ HB.out) (fun x cs h => by obtain rfl := k42_open h; exact k42_mkM _ _ _ x) (fun _ hk => hk.elim) (fun k_ hk => ⟨by have := blk_lt BK300.out; omega, by have := blk_lt BK6.out; omega⟩) HB.out (below_size HB.out) (by simp only [List.nil_append, List.length_append, List.length_nil, List.length_cons, List.length_take, List.length_drop]; omega) ?_
     intro v33 w1 ho hb hg hat
     have n0_ := asd (blk_grown BK300.out hg (Kd.R_away HO.out (fun _ h => h.1)))
     have n1_ := asd (blk_grown BK6.out hg (Kd.R_away HO.out (fun _ h => h.2)))
     have n2_ := Aside0.mk hb
     have n3_ := Aside0.mk ho
     clear BK300 HB ho hb hg hat BK6 HO
     have BK300 := n0_
     have HB := n2_
     have HO := n3_
     have BK6 := n1_
     clear n1_
     clear n0_ n2_ n3_
     refine hK.out _ _ (eb2 BK300).out (fun hHeld => ?_)
     clear hK K
     refine norm_ (a' := ?_) ?_ ?_
     rotate_left
     ·show Act.put _ (some 44) _ = _
      simp only [Act.put, sA, sB, sC, i64_w, i32_w]
      rfl
     refine pure_ (i := 12) (N := some 4) (v := ?_) (a' := ?_) (bT 13 13) rfl rfl (any_of HT_.out (by kernel_rfl)) (fun _ _ _ h => h) (Or.inl ⟨by rfl, ?_⟩) ?_ ?_
     rotate_left
     ·intro w'
      go_simp; with_reducible rfl
     rotate_left
     ·simp only [Act.put, sA, sB, sC, i64_w, i32_w]
      rfl
     refine done_ (done_of HT_.out (by kernel_rfl)) ?_
     try go_wp2
     all_goals (go_ret; obtain ⟨v2, he2, h2⟩ := fin _ _ (Kd.R_mono HO.out (fun _ _ => trivial)) HB.out; cases he2; exact ⟨_, rfl, h2⟩)
   all_goals
    obtain ⟨p301, q301, ad301, e301, hw301_0, hw301_1, hx301_0, hx301_1⟩ := at_T42w HR0.out HB x5_1
    cases e301
    refine sh 12 (cb2 BK300 (ex2 HB hw301_0 hw301_1)) (fun hHeld => ?_); refine with_tabW spec_l01Insert.tab2 spec_l01Insert.bits2 (fun HT_ HW_ => ?_)
    generalize wr.drew = w8 at BK300 HB hx301_0 hx301_1 hHeld ⊢
    refine pu 0 (some 6) (bT 12 1) HT_ ?_
    refine pu 1 (some 7) (bT 12 2) HT_ ?_
    refine pu 2 (some 8) (bT 12 3) HT_ ?_
    refine pu 3 (some 9) (bT 12 4) HT_ ?_
    refine pu 4 (some 10) (bT 12 5) HT_ ?_
    refine pu 5 (some 11) (bT 12 6) HT_ ?_
    refine pu 6 (some 12) (bT 12 7) HT_ ?_
    refine pu 7 (some 13) (bT 12 8) HT_ ?_
    refine ta 8 (some 14) (bT 12 9) HT_ HW_ hHeld ?_
    refine ta 9 (some 15) (bT 12 10) HT_ HW_ hHeld ?_
    refine ro 10 (some 16) (bT 12 11) HT_ (fun K hK => ?_)
    refine gs Try.func51 #[.agg #[.int .i64 ((rd_T42 l0 x5_1).f0), .int .i64 ((rd_T42 l0 x5_1).f1)], .agg #[.int .i64 a1_0, .int .i64 a1_1]] ?_
    with_reducible refine (spec_l01Less.calls _ _ _ _ _ _ A6.out).mono ?_
    rintro e w9 ⟨rfl, hb⟩
    refine ⟨_, rfl, ?_⟩
    replace BK300 := bB BK300 hb
    replace HB := bS1 HB GE300 hb
    (try clear hb)
    (try clear hb2)
    (try clear hk)
    (try clear hi)
    refine hK.out _ _ (cb2 BK300 (ex2 HB hw301_0 hw301_1)).out (fun hHeld => ?_)
    clear hK K
    refine norm_ (a' := ?_) ?_ ?_
    rotate_left
    ·show Act.put _ (some 16) _ = _
     simp only [Act.put, sA, sB, sC, i64_w, i32_w]
     rfl
    refine pu 11 (some 17) (bT 12 12) HT_ ?_
    refine done_ (done_of HT_.out (by kernel_rfl)) ?_
    try go_wp2
   ·go_roundg k1
    case measure => have := HK1.out; omega
    case rel => exact ⟨(wrap64 (x5_1 + 1)), (by first | rfl | (simp; done) | (simp [*]; done)), H', ⟨by have := HK1.out; omega⟩, ⟨bkp BK300⟩, ⟨bbw1 HB GE300⟩⟩
   rotate_left 2
   all_goals
    replace BK300 := asd (blk_drew BK300.out)
    replace HB := asd (below_drew1 HB.out)
    obtain ⟨p303, q303, ad303, e303, hw303_0, hw303_1, hx303_0, hx303_1⟩ := at_T42w HR0.out HB x5_1
    obtain rfl : ad301 = ad303 := (by injection e303)
    refine sh 12 (cb2 BK300 (ex2 HB hw303_0 hw303_1)) (fun hHeld => ?_); refine with_tabW spec_l01Insert.tab4 spec_l01Insert.bits4 (fun HT_ HW_ => ?_)
   generalize w9.drew = w13 at BK300 HB hx303_0 hx303_1 hHeld ⊢
   rotate_left
   generalize w9.drew = w16 at BK300 HB hx303_0 hx303_1 hHeld ⊢
   rotate_left
   all_goals
    refine pu 0 (some 20) (bT 12 1) HT_ ?_
    refine pu 1 (some 21) (bT 12 2) HT_ ?_
    refine pu 2 (some 22) (bT 12 3) HT_ ?_
    refine pu 3 (some 23) (bT 12 4) HT_ ?_
    refine pu 4 (some 24) (bT 12 5) HT_ ?_
    refine pu 5 (some 25) (bT 12 6) HT_ ?_
    refine pu 6 (some 26) (bT 12 7) HT_ ?_
    refine pu 7 (some 27) (bT 12 8) HT_ ?_
    refine ta 8 (some 28) (bT 12 9) HT_ HW_ hHeld ?_
    refine ta 9 (some 29) (bT 12 10) HT_ HW_ hHeld ?_
    refine pu 10 (some 30) (bT 12 11) HT_ ?_
    refine pu 11 (some 31) (bT 12 12) HT_ ?_
    refine done_ (done_of HT_.out (by kernel_rfl)) ?_
    try go_wp2
   ·go_ret
    have he : spec_l01Insert.at l0 (⟨a1_0, a1_1⟩ : S42) x5_1.toNat = l0 := by unfold spec_l01Insert.at; rw [Int.toNat_of_nonneg h0, if_pos (by unfold spec_l01Insert.eqB; rw [Bool.and_eq_true]; exact ⟨decide_eq_true (by have := of_decide_eq_true c4b0; omega), c10b0⟩)]
    refine ⟨_, rfl, ?_, (bbw0 HB), Or.inl rfl⟩
    rw [he]
    exact Kd.R_below HRO.out (bbw0 HB)
   ·have he : spec_l01Insert.at l0 (⟨a1_0, a1_1⟩ : S42) x5_1.toNat = l0.take x5_1.toNat ++ [(⟨a1_0, a1_1⟩ : S42)] ++ l0.drop x5_1.toNat := by unfold spec_l01Insert.at; rw [Int.toNat_of_nonneg h0, if_neg (by unfold spec_l01Insert.eqB; rw [Bool.and_eq_true]; rintro ⟨_, h⟩; exact Bool.noConfusion (c10b0.symm.trans h))]
    have fin := FNa.out he
    have cuth := CHa.out
    have cutl := CLa.out
    have lm : l0.length ≤ 8796093022208 := LMa.out
    clear he FNa CHa CLa
    have n0_ := asd (blk_drew BK300.out)
    have n1_ := asd (below_drew1 HB.out)
    clear BK300 HB
    have BK300 := n0_
    have HB := n1_
    clear n0_ n1_
    obtain ⟨rt, rd_⟩ := RDa.out
    clear RDa
    refine sh 13 (eb2 BK300) (fun hHeld => ?_)
    refine with_tabW spec_l01Insert.tab6 spec_l01Insert.bits6 (fun HT_ HW_ => ?_)
    generalize w16.drew = w41 at BK300 HB hHeld ⊢
    refine pure_ (i := 1) (N := some 34) (v := ?_) (a' := ?_) (bs 13 2) rfl rfl (any_of HT_.out (by kernel_rfl)) (fun _ _ _ h => h) (Or.inl ⟨by rfl, ?_⟩) ?_ ?_
    rotate_left
    ·intro w'
     go_simp; with_reducible rfl
    rotate_left
    ·simp only [Act.put, sA, sB, sC, i64_w, i32_w]
     rfl
    refine pure_ (i := 2) (N := some 35) (v := ?_) (a' := ?_) (bs 13 6) rfl rfl (any_of HT_.out (by kernel_rfl)) (fun _ _ _ h => h) (Or.inl ⟨by rfl, ?_⟩) ?_ ?_
    rotate_left
    ·intro w'
     go_simp; with_reducible rfl
    rotate_left
    ·simp only [Act.put, sA, sB, sC, i64_w, i32_w]
     rfl
    refine pure_ (i := 3) (N := some 36) (v := ?_) (a' := ?_) (bs 13 14) rfl rfl (any_of HT_.out (by kernel_rfl)) (fun _ _ _ h => h) (Or.inl ⟨by rfl, ?_⟩) ?_ ?_
    rotate_left
    ·intro w'
     go_simp; with_reducible rfl
    rotate_left
    ·simp only [Act.put, sA, sB, sC, i64_w, i32_w]
     rfl
    refine ta 5 (some 38) (bs 13 46) HT_ HW_ hHeld ?_
    refine pure_ (i := 8) (N := some 41) (v := ?_) (a' := ?_) (bs 13 302) rfl rfl (any_of HT_.out (by kernel_rfl)) (fun _ _ _ h => h) (Or.inl ⟨by rfl, ?_⟩) ?_ ?_
    rotate_left
    ·intro w'
     go_simp; with_reducible rfl
    rotate_left
    ·simp only [Act.put, sA, sB, sC, i64_w, i32_w]
     rfl
    refine pure_ (i := 9) (N := some 42) (v := ?_) (a' := ?_) (bs 13 814) rfl rfl (any_of HT_.out (by kernel_rfl)) (fun _ _ _ h => h) (Or.inl ⟨by rfl, ?_⟩) ?_ ?_
    rotate_left
    ·intro w'
     go_simp; with_reducible rfl
    rotate_left
    ·simp only [Act.put, sA, sB, sC, i64_w, i32_w]
     rfl
    refine pure_ (i := 10) (N := some 43) (v := ?_) (a' := ?_) (bs 13 1838) rfl rfl (any_of HT_.out (by kernel_rfl)) (fun _ _ _ h => h) (Or.inl ⟨by rfl, ?_⟩) ?_ ?_
    rotate_left
    ·intro w'
     go_simp; with_reducible rfl
    rotate_left
    ·simp only [Act.put, sA, sB, sC, i64_w, i32_w]
     rfl
    refine two_ (i := 0) (j := 6) (Ni := some 33) (Nj := some 39) (bs 13 1839) #[false, true, true, true, false, true, true, false, true, true, true, false, false] rfl rfl rfl rfl (two_of HT_.out (by kernel_rfl)) (by decide) (by decide) ?_ ?_
    ·intro K hK
     refine Kd.R_lit_step k42 (w0 := w) w.heap.size 42 (by rfl) (N := 33) rfl (xs := ([] : List S42)) (inner := []) (ok := (fun k_ => k_ ≠ gb300)) (okp := fun _ => False) (by first | (go_simp; done) | (go_simp; rfl)) ⟨rfl, fun j p hp => by cases hp⟩ (fun _ h => h.elim) (Nat.ne_of_gt (blk_lt BK300.out)) HB.out (below_size HB.out) (by decide) ?_
     intro v22 w1 ho hb hg hat
     have n0_ := asd (blk_grown BK300.out hg (by simp))
     have n2_ := Aside0.mk hb
     have n3_ := Aside0.mk ho
     clear BK300 HB ho hb hg hat
     have BK300 := n0_
     have HB := n2_
     have HO := n3_
     clear n0_ n2_ n3_
     refine hK.out _ _ (eb2 BK300).out (fun hHeld => ?_)
     clear hK K
     refine norm_ (a' := ?_) ?_ ?_
     rotate_left
     ·show Act.put _ (some 33) _ = _
      simp only [Act.put, sA, sB, sC, i64_w, i32_w]
      rfl
     refine two_ (i := 4) (j := 6) (Ni := some 37) (Nj := some 39) (bs 13 1855) #[true, true, true, true, false, true, true, false, true, true, true, false, false] rfl rfl rfl rfl (two_of HT_.out (by kernel_rfl)) (by decide) (by decide) ?_ ?_
     ·intro K hK
      refine Kd.R_append_rows_step k42 (Rr := k42.K _) (w0 := w) w.heap.size (by rfl) (.tmp 33) (.tmp 36) 37 42 (.agg #[(.int .i64 0), (.int .i64 0)]) 16 rfl Try.underlying37 info42 rfl (by decide) (by omega) v22 [] (l0.take x5_1.toNat) _ _ _ (fun k_ => k_ ≠ gb300) (fun _ => False) rfl rfl HO.out (rt _ HB.out) (fun x cs h => by obtain rfl := k42_open h; exact k42_mkM _ _ _ x) (fun _ hk => hk.elim) (fun k_ hk => (by have := blk_lt BK300.out; omega)) HB.out (below_size HB.out) (by simp only [List.nil_append, List.length_append, List.length_nil, List.length_cons, List.length_take, List.length_drop]; omega) ?_
      intro v26 w1 ho hb hg hat
      have n0_ := asd (blk_grown BK300.out hg (Kd.R_away HO.out (fun _ h => h)))
      have n2_ := Aside0.mk hb
      have n3_ := Aside0.mk ho
      clear BK300 HB ho hb hg hat HO
      have BK300 := n0_
      have HB := n2_
      have HO := n3_
      clear n0_ n2_ n3_
      refine hK.out _ _ (eb2 BK300).out (fun hHeld => ?_)
      clear hK K
      refine norm_ (a' := ?_) ?_ ?_
      rotate_left
      ·show Act.put _ (some 37) _ = _
       simp only [Act.put, sA, sB, sC, i64_w, i32_w]
       rfl
      refine ro 6 (some 39) (bs 13 1919) HT_ (fun K hK => ?_)
      refine spec_l01Insert.lit1 (by rfl) (N := 39) rfl (cs := #[.int .i64 a1_0, .int .i64 a1_1]) (t := 42) (by first | (go_simp; done) | (go_simp; rfl)) ?_
      intro gb6 hg6 w1 hbox hb
      have n3_ := asd (Kd.R_below (Kd.R_mono (Kd.R_elderB HO.out gb6 (Nat.le_of_eq hg6.symm)) (fun _ h => h) : Kd.R k42 42 _ w.heap.size (fun k_ => k_ ≠ gb300 ∧ k_ ≠ gb6) _ _) hb)
      have n0_ := asd (blk_below BK300.out hb)
      have n1_ := asd (below_step HB.out hb)
      have n2_ := Aside0.mk hbox
      have GE6 := asd (by have := blk_lt BK300.out; omega : gb300 ≠ gb6)
      clear BK300 HB hbox hb hg6 HO
      have BK300 := n0_
      have HB := n1_
      have BK6 := n2_
      have HO := n3_
      clear n3_
      clear n0_ n1_ n2_
      refine hK.out _ _ (eb2 BK300).out (fun hHeld => ?_)
      clear hK K
      refine norm_ (a' := ?_) ?_ ?_
      rotate_left
      ·show Act.put _ (some 39) _ = _
       simp only [Act.put, sA, sB, sC, i64_w, i32_w]
       rfl
      refine ro 7 (some 40) (bT 13 11) HT_ (fun K hK => ?_)
      refine Kd.R_append_rows_step k42 (Rr := k42.K _) (w0 := w) w.heap.size (by rfl) (.tmp 37) (.tmp 39) 37 42 (.agg #[(.int .i64 0), (.int .i64 0)]) 16 rfl Try.underlying37 info42 rfl (by decide) (by omega) v26 ([] ++ l0.take x5_1.toNat) [(⟨a1_0, a1_1⟩ : S42)] _ _ _ (fun k_ => k_ ≠ gb300 ∧ k_ ≠ gb6) (fun _ => False) rfl rfl HO.out (spec_l01Insert.row1 BK6.out) (fun x cs h => by obtain rfl := k42_open h; exact k42_mkM _ _ _ x) (fun _ hk => hk.elim) (fun k_ hk => ⟨by have := blk_lt BK300.out; omega, by have := blk_lt BK6.out; omega⟩) HB.out (below_size HB.out) (by simp only [List.nil_append, List.length_append, List.length_nil, List.length_cons, List.length_take, List.length_drop]; omega) ?_
      intro v29 w1 ho hb hg hat
      have n0_ := asd (blk_grown BK300.out hg (Kd.R_away HO.out (fun _ h => h.1)))
      have n1_ := asd (blk_grown BK6.out hg (Kd.R_away HO.out (fun _ h => h.2)))
      have n2_ := Aside0.mk hb
      have n3_ := Aside0.mk ho
      clear BK300 HB ho hb hg hat BK6 HO
      have BK300 := n0_
      have HB := n2_
      have HO := n3_
      have BK6 := n1_
      clear n1_
      clear n0_ n2_ n3_
      refine hK.out _ _ (eb2 BK300).out (fun hHeld => ?_)
      clear hK K
      refine norm_ (a' := ?_) ?_ ?_
      rotate_left
      ·show Act.put _ (some 40) _ = _
       simp only [Act.put, sA, sB, sC, i64_w, i32_w]
       rfl
      refine ro 11 (some 44) (bT 13 12) HT_ (fun K hK => ?_)
      refine Kd.R_append_rows_step k42 (Rr := k42.K _) (w0 := w) w.heap.size (by rfl) (.tmp 40) (.tmp 43) 37 42 (.agg #[(.int .i64 0), (.int .i64 0)]) 16 rfl Try.underlying37 info42 rfl (by decide) (by omega) v29 ([] ++ l0.take x5_1.toNat ++ [(⟨a1_0, a1_1⟩ : S42)]) (l0.drop x5_1.toNat) _ _ _ (fun k_ => k_ ≠ gb300 ∧ k_ ≠ gb6) (fun _ => False) rfl rfl HO.out (rd_ _ HB.out) (fun x cs h => by obtain rfl := k42_open h; exact k42_mkM _ _ _ x) (fun _ hk => hk.elim) (fun k_ hk => ⟨by have := blk_lt BK300.out; omega, by have := blk_lt BK6.out; omega⟩) HB.out (below_size HB.out) (by simp only [List.nil_append, List.length_append, List.length_nil, List.length_cons, List.length_take, List.length_drop]; omega) ?_
      intro v33 w1 ho hb hg hat
      have n0_ := asd (blk_grown BK300.out hg (Kd.R_away HO.out (fun _ h => h.1)))
      have n1_ := asd (blk_grown BK6.out hg (Kd.R_away HO.out (fun _ h => h.2)))
      have n2_ := Aside0.mk hb
      have n3_ := Aside0.mk ho
      clear BK300 HB ho hb hg hat BK6 HO
      have BK300 := n0_
      have HB := n2_
      have HO := n3_
      have BK6 := n1_
      clear n1_
      clear n0_ n2_ n3_
      refine hK.out _ _ (eb2 BK300).out (fun hHeld => ?_)
      clear hK K
      refine norm_ (a' := ?_) ?_ ?_
      rotate_left
      ·show Act.put _ (some 44) _ = _
       simp only [Act.put, sA, sB, sC, i64_w, i32_w]
       rfl
      refine pure_ (i := 12) (N := some 4) (v := ?_) (a' := ?_) (bT 13 13) rfl rfl (any_of HT_.out (by kernel_rfl)) (fun _ _ _ h => h) (Or.inl ⟨by rfl, ?_⟩) ?_ ?_
      rotate_left
      ·intro w'
       go_simp; with_reducible rfl
      rotate_left
      ·simp only [Act.put, sA, sB, sC, i64_w, i32_w]
       rfl
      refine done_ (done_of HT_.out (by kernel_rfl)) ?_
      try go_wp2
      all_goals (go_ret; obtain ⟨v2, he2, h2⟩ := fin _ _ (Kd.R_mono HO.out (fun _ _ => trivial)) HB.out; cases he2; exact ⟨_, rfl, h2⟩)
     ·intro K hK
      refine spec_l01Insert.lit1 (by rfl) (N := 39) rfl (cs := #[.int .i64 a1_0, .int .i64 a1_1]) (t := 42) (by first | (go_simp; done) | (go_simp; rfl)) ?_
      intro gb6 hg6 w1 hbox hb
      have n3_ := asd (Kd.R_below (Kd.R_mono (Kd.R_elderB HO.out gb6 (Nat.le_of_eq hg6.symm)) (fun _ h => h) : Kd.R k42 42 _ w.heap.size (fun k_ => k_ ≠ gb300 ∧ k_ ≠ gb6) _ _) hb)
      have n0_ := asd (blk_below BK300.out hb)
      have n1_ := asd (below_step HB.out hb)
      have n2_ := Aside0.mk hbox
      have GE6 := asd (by have := blk_lt BK300.out; omega : gb300 ≠ gb6)
      clear BK300 HB hbox hb hg6 HO
      have BK300 := n0_
      have HB := n1_
      have BK6 := n2_
      have HO := n3_
      clear n3_
      clear n0_ n1_ n2_
      refine hK.out _ _ (eb2 BK300).out (fun hHeld => ?_)
      clear hK K
      refine norm_ (a' := ?_) ?_ ?_
      rotate_left
      ·show Act.put _ (some 39) _ = _
       simp only [Act.put, sA, sB, sC, i64_w, i32_w]
       rfl
      refine ro 4 (some 37) (bs 13 1919) HT_ (fun K hK => ?_)
      refine Kd.R_append_rows_step k42 (Rr := k42.K _) (w0 := w) w.heap.size (by rfl) (.tmp 33) (.tmp 36) 37 42 (.agg #[(.int .i64 0), (.int .i64 0)]) 16 rfl Try.underlying37 info42 rfl (by decide) (by omega) v22 [] (l0.take x5_1.toNat) _ _ _ (fun k_ => k_ ≠ gb300 ∧ k_ ≠ gb6) (fun _ => False) rfl rfl HO.out (rt _ HB.out) (fun x cs h => by obtain rfl := k42_open h; exact k42_mkM _ _ _ x) (fun _ hk => hk.elim) (fun k_ hk => ⟨by have := blk_lt BK300.out; omega, by have := blk_lt BK6.out; omega⟩) HB.out (below_size HB.out) (by simp only [List.nil_append, List.length_append, List.length_nil, List.length_cons, List.length_take, List.length_drop]; omega) ?_
      intro v26 w1 ho hb hg hat
      have n0_ := asd (blk_grown BK300.out hg (Kd.R_away HO.out (fun _ h => h.1)))
      have n1_ := asd (blk_grown BK6.out hg (Kd.R_away HO.out (fun _ h => h.2)))
      have n2_ := Aside0.mk hb
      have n3_ := Aside0.mk ho
      clear BK300 HB ho hb hg hat BK6 HO
      have BK300 := n0_
      have HB := n2_
      have HO := n3_
      have BK6 := n1_
      clear n1_
      clear n0_ n2_ n3_
      refine hK.out _ _ (eb2 BK300).out (fun hHeld => ?_)
      clear hK K
      refine norm_ (a' := ?_) ?_ ?_
      rotate_left
      ·show Act.put _ (some 37) _ = _
       simp only [Act.put, sA, sB, sC, i64_w, i32_w]
       rfl
      refine ro 7 (some 40) (bT 13 11) HT_ (fun K hK => ?_)
      refine Kd.R_append_rows_step k42 (Rr := k42.K _) (w0 := w) w.heap.size (by rfl) (.tmp 37) (.tmp 39) 37 42 (.agg #[(.int .i64 0), (.int .i64 0)]) 16 rfl Try.underlying37 info42 rfl (by decide) (by omega) v26 ([] ++ l0.take x5_1.toNat) [(⟨a1_0, a1_1⟩ : S42)] _ _ _ (fun k_ => k_ ≠ gb300 ∧ k_ ≠ gb6) (fun _ => False) rfl rfl HO.out (spec_l01Insert.row1 BK6.out) (fun x cs h => by obtain rfl := k42_open h; exact k42_mkM _ _ _ x) (fun _ hk => hk.elim) (fun k_ hk => ⟨by have := blk_lt BK300.out; omega, by have := blk_lt BK6.out; omega⟩) HB.out (below_size HB.out) (by simp only [List.nil_append, List.length_append, List.length_nil, List.length_cons, List.length_take, List.length_drop]; omega) ?_
      intro v29 w1 ho hb hg hat
      have n0_ := asd (blk_grown BK300.out hg (Kd.R_away HO.out (fun _ h => h.1)))
      have n1_ := asd (blk_grown BK6.out hg (Kd.R_away HO.out (fun _ h => h.2)))
      have n2_ := Aside0.mk hb
      have n3_ := Aside0.mk ho
      clear BK300 HB ho hb hg hat BK6 HO
      have BK300 := n0_
      have HB := n2_
      have HO := n3_
      have BK6 := n1_
      clear n1_
      clear n0_ n2_ n3_
      refine hK.out _ _ (eb2 BK300).out (fun hHeld => ?_)
      clear hK K
      refine norm_ (a' := ?_) ?_ ?_
      rotate_left
      ·show Act.put _ (some 40) _ = _
       simp only [Act.put, sA, sB, sC, i64_w, i32_w]
       rfl
      refine ro 11 (some 44) (bT 13 12) HT_ (fun K hK => ?_)
      refine Kd.R_append_rows_step k42 (Rr := k42.K _) (w0 := w) w.heap.size (by rfl) (.tmp 40) (.tmp 43) 37 42 (.agg #[(.int .i64 0), (.int .i64 0)]) 16 rfl Try.underlying37 info42 rfl (by decide) (by omega) v29 ([] ++ l0.take x5_1.toNat ++ [(⟨a1_0, a1_1⟩ : S42)]) (l0.drop x5_1.toNat) _ _ _ (fun k_ => k_ ≠ gb300 ∧ k_ ≠ gb6) (fun _ => False) rfl rfl HO.out (rd_ _ HB.out) (fun x cs h => by obtain rfl := k42_open h; exact k42_mkM _ _ _ x) (fun _ hk => hk.elim) (fun k_ hk => ⟨by have := blk_lt BK300.out; omega, by have := blk_lt BK6.out; omega⟩) HB.out (below_size HB.out) (by simp only [List.nil_append, List.length_append, List.length_nil, List.length_cons, List.length_take, List.length_drop]; omega) ?_
      intro v33 w1 ho hb hg hat
      have n0_ := asd (blk_grown BK300.out hg (Kd.R_away HO.out (fun _ h => h.1)))
      have n1_ := asd (blk_grown BK6.out hg (Kd.R_away HO.out (fun _ h => h.2)))
      have n2_ := Aside0.mk hb
      have n3_ := Aside0.mk ho
      clear BK300 HB ho hb hg hat BK6 HO
      have BK300 := n0_
      have HB := n2_
      have HO := n3_
      have BK6 := n1_
      clear n1_
      clear n0_ n2_ n3_
      refine hK.out _ _ (eb2 BK300).out (fun hHeld => ?_)
      clear hK K
      refine norm_ (a' := ?_) ?_ ?_
      rotate_left
      ·show Act.put _ (some 44) _ = _
       simp only [Act.put, sA, sB, sC, i64_w, i32_w]
       rfl
      refine pure_ (i := 12) (N := some 4) (v := ?_) (a' := ?_) (bT 13 13) rfl rfl (any_of HT_.out (by kernel_rfl)) (fun _ _ _ h => h) (Or.inl ⟨by rfl, ?_⟩) ?_ ?_
      rotate_left
      ·intro w'
       go_simp; with_reducible rfl
      rotate_left
      ·simp only [Act.put, sA, sB, sC, i64_w, i32_w]
       rfl
      refine done_ (done_of HT_.out (by kernel_rfl)) ?_
      try go_wp2
      all_goals (go_ret; obtain ⟨v2, he2, h2⟩ := fin _ _ (Kd.R_mono HO.out (fun _ _ => trivial)) HB.out; cases he2; exact ⟨_, rfl, h2⟩)
    ·intro K hK
     refine spec_l01Insert.lit1 (by rfl) (N := 39) rfl (cs := #[.int .i64 a1_0, .int .i64 a1_1]) (t := 42) (by first | (go_simp; done) | (go_simp; rfl)) ?_
     intro gb6 hg6 w1 hbox hb
     have n0_ := asd (blk_below BK300.out hb)
     have n1_ := asd (below_step HB.out hb)
     have n2_ := Aside0.mk hbox
     have GE6 := asd (by have := blk_lt BK300.out; omega : gb300 ≠ gb6)
     clear BK300 HB hbox hb hg6
     have BK300 := n0_
     have HB := n1_
     have BK6 := n2_
     clear n0_ n1_ n2_
     refine hK.out _ _ (eb2 BK300).out (fun hHeld => ?_)
     clear hK K
     refine norm_ (a' := ?_) ?_ ?_
     rotate_left
     ·show Act.put _ (some 39) _ = _
      simp only [Act.put, sA, sB, sC, i64_w, i32_w]
      rfl
     refine ro 0 (some 33) (bs 13 1903) HT_ (fun K hK => ?_)
     refine Kd.R_lit_step k42 (w0 := w) w.heap.size 42 (by rfl) (N := 33) rfl (xs := ([] : List S42)) (inner := []) (ok := (fun k_ => k_ ≠ gb300 ∧ k_ ≠ gb6)) (okp := fun _ => False) (by first | (go_simp; done) | (go_simp; rfl)) ⟨rfl, fun j p hp => by cases hp⟩ (fun _ h => h.elim) (by have h1 := blk_lt BK300.out; have h2 := blk_lt BK6.out; exact ⟨Nat.ne_of_gt h1, Nat.ne_of_gt h2⟩) HB.out (below_size HB.out) (by decide) ?_
     intro v22 w1 ho hb hg hat
     have n0_ := asd (blk_grown BK300.out hg (by simp))
     have n1_ := asd (blk_grown BK6.out hg (by simp))
     have n2_ := Aside0.mk hb
     have n3_ := Aside0.mk ho
     clear BK300 HB ho hb hg hat BK6
     have BK300 := n0_
     have HB := n2_
     have HO := n3_
     have BK6 := n1_
     clear n1_
     clear n0_ n2_ n3_
     refine hK.out _ _ (eb2 BK300).out (fun hHeld => ?_)
     clear hK K
     refine norm_ (a' := ?_) ?_ ?_
     rotate_left
     ·show Act.put _ (some 33) _ = _
      simp only [Act.put, sA, sB, sC, i64_w, i32_w]
      rfl
     refine ro 4 (some 37) (bs 13 1919) HT_ (fun K hK => ?_)
     refine Kd.R_append_rows_step k42 (Rr := k42.K _) (w0 := w) w.heap.size (by rfl) (.tmp 33) (.tmp 36) 37 42 (.agg #[(.int .i64 0), (.int .i64 0)]) 16 rfl Try.underlying37 info42 rfl (by decide) (by omega) v22 [] (l0.take x5_1.toNat) _ _ _ (fun k_ => k_ ≠ gb300 ∧ k_ ≠ gb6) (fun _ => False) rfl rfl HO.out (rt _ HB.out) (fun x cs h => by obtain rfl := k42_open h; exact k42_mkM _ _ _ x) (fun _ hk => hk.elim) (fun k_ hk => ⟨by have := blk_lt BK300.out; omega, by have := blk_lt BK6.out; omega⟩) HB.out (below_size HB.out) (by simp only [List.nil_append, List.length_append, List.length_nil, List.length_cons, List.length_take, List.length_drop]; omega) ?_
     intro v26 w1 ho hb hg hat
     have n0_ := asd (blk_grown BK300.out hg (Kd.R_away HO.out (fun _ h => h.1)))
     have n1_ := asd (blk_grown BK6.out hg (Kd.R_away HO.out (fun _ h => h.2)))
     have n2_ := Aside0.mk hb
     have n3_ := Aside0.mk ho
     clear BK300 HB ho hb hg hat BK6 HO
     have BK300 := n0_
     have HB := n2_
     have HO := n3_
     have BK6 := n1_
     clear n1_
     clear n0_ n2_ n3_
     refine hK.out _ _ (eb2 BK300).out (fun hHeld => ?_)
     clear hK K
     refine norm_ (a' := ?_) ?_ ?_
     rotate_left
     ·show Act.put _ (some 37) _ = _
      simp only [Act.put, sA, sB, sC, i64_w, i32_w]
      rfl
     refine ro 7 (some 40) (bT 13 11) HT_ (fun K hK => ?_)
     refine Kd.R_append_rows_step k42 (Rr := k42.K _) (w0 := w) w.heap.size (by rfl) (.tmp 37) (.tmp 39) 37 42 (.agg #[(.int .i64 0), (.int .i64 0)]) 16 rfl Try.underlying37 info42 rfl (by decide) (by omega) v26 ([] ++ l0.take x5_1.toNat) [(⟨a1_0, a1_1⟩ : S42)] _ _ _ (fun k_ => k_ ≠ gb300 ∧ k_ ≠ gb6) (fun _ => False) rfl rfl HO.out (spec_l01Insert.row1 BK6.out) (fun x cs h => by obtain rfl := k42_open h; exact k42_mkM _ _ _ x) (fun _ hk => hk.elim) (fun k_ hk => ⟨by have := blk_lt BK300.out; omega, by have := blk_lt BK6.out; omega⟩) HB.out (below_size HB.out) (by simp only [List.nil_append, List.length_append, List.length_nil, List.length_cons, List.length_take, List.length_drop]; omega) ?_
     intro v29 w1 ho hb hg hat
     have n0_ := asd (blk_grown BK300.out hg (Kd.R_away HO.out (fun _ h => h.1)))
     have n1_ := asd (blk_grown BK6.out hg (Kd.R_away HO.out (fun _ h => h.2)))
     have n2_ := Aside0.mk hb
     have n3_ := Aside0.mk ho
     clear BK300 HB ho hb hg hat BK6 HO
     have BK300 := n0_
     have HB := n2_
     have HO := n3_
     have BK6 := n1_
     clear n1_
     clear n0_ n2_ n3_
     refine hK.out _ _ (eb2 BK300).out (fun hHeld => ?_)
     clear hK K
     refine norm_ (a' := ?_) ?_ ?_
     rotate_left
     ·show Act.put _ (some 40) _ = _
      simp only [Act.put, sA, sB, sC, i64_w, i32_w]
      rfl
     refine ro 11 (some 44) (bT 13 12) HT_ (fun K hK => ?_)
     refine Kd.R_append_rows_step k42 (Rr := k42.K _) (w0 := w) w.heap.size (by rfl) (.tmp 40) (.tmp 43) 37 42 (.agg #[(.int .i64 0), (.int .i64 0)]) 16 rfl Try.underlying37 info42 rfl (by decide) (by omega) v29 ([] ++ l0.take x5_1.toNat ++ [(⟨a1_0, a1_1⟩ : S42)]) (l0.drop x5_1.toNat) _ _ _ (fun k_ => k_ ≠ gb300 ∧ k_ ≠ gb6) (fun _ => False) rfl rfl HO.out (rd_ _ HB.out) (fun x cs h => by obtain rfl := k42_open h; exact k42_mkM _ _ _ x) (fun _ hk => hk.elim) (fun k_ hk => ⟨by have := blk_lt BK300.out; omega, by have := blk_lt BK6.out; omega⟩) HB.out (below_size HB.out) (by simp only [List.nil_append, List.length_append, List.length_nil, List.length_cons, List.length_take, List.length_drop]; omega) ?_
     intro v33 w1 ho hb hg hat
     have n0_ := asd (blk_grown BK300.out hg (Kd.R_away HO.out (fun _ h => h.1)))
     have n1_ := asd (blk_grown BK6.out hg (Kd.R_away HO.out (fun _ h => h.2)))
     have n2_ := Aside0.mk hb
     have n3_ := Aside0.mk ho
     clear BK300 HB ho hb hg hat BK6 HO
     have BK300 := n0_
     have HB := n2_
     have HO := n3_
     have BK6 := n1_
     clear n1_
     clear n0_ n2_ n3_
     refine hK.out _ _ (eb2 BK300).out (fun hHeld => ?_)
     clear hK K
     refine norm_ (a' := ?_) ?_ ?_
     rotate_left
     ·show Act.put _ (some 44) _ = _
      simp only [Act.put, sA, sB, sC, i64_w, i32_w]
      rfl
     refine pure_ (i := 12) (N := some 4) (v := ?_) (a' := ?_) (bT 13 13) rfl rfl (any_of HT_.out (by kernel_rfl)) (fun _ _ _ h => h) (Or.inl ⟨by rfl, ?_⟩) ?_ ?_
     rotate_left
     ·intro w'
      go_simp; with_reducible rfl
     rotate_left
     ·simp only [Act.put, sA, sB, sC, i64_w, i32_w]
      rfl
     refine done_ (done_of HT_.out (by kernel_rfl)) ?_
     try go_wp2
     all_goals (go_ret; obtain ⟨v2, he2, h2⟩ := fin _ _ (Kd.R_mono HO.out (fun _ _ => trivial)) HB.out; cases he2; exact ⟨_, rfl, h2⟩)

/-- The place that is looked up, with rounds enough for every list that fits. -/
@[irreducible] def spec_l01Insert.pl (l : List S42) (x : S42) : Option Int := spec_l01Insert.f 2000000 l x.f0 x.f1
@[irreducible] def spec_l01Insert.ok (l : List S42) (x : S42) : Bool := match spec_l01Insert.pl l x with | some t => decide (0 ≤ t ∧ t ≤ (l.length : Int)) | none => false
/-- The list with x put in. -/
@[irreducible] def spec_l01Insert.ins (l : List S42) (x : S42) : List S42 := spec_l01Insert.at l x ((spec_l01Insert.pl l x).getD 0).toNat
theorem spec_l01Insert.ins_calls (l0 : List S42) (x : S42) (hl : l0.length < 8796093022208) (hk : spec_l01Insert.ok l0 x = true) (w : World) (base : Nat) (ok : Nat → Prop) (v : Value) (HR : Kd.R k42 42 w base ok v l0) (hbase : base ≤ w.heap.size) (hfresh : ∀ q, w.heap.size ≤ q → ok q) :
  Calls Try.prog 30 #[v, .agg #[.int .i64 x.f0, .int .i64 x.f1]] w fun e w' => ∃ v1, e = .returned v1 ∧ Kd.R k42 42 w' base ok v1 (spec_l01Insert.ins l0 x) ∧ Below w.heap.size w w' ∧ (v1.ownBlock = v.ownBlock ∨ ∃ b, v1.ownBlock = some b ∧ w.heap.size ≤ b) := by
 unfold spec_l01Insert.ok at hk
 unfold spec_l01Insert.ins
 cases e : spec_l01Insert.pl l0 x with
 | none => rw [e] at hk; exact Bool.noConfusion hk
 | some t =>
  rw [e] at hk
  obtain ⟨h0, h1⟩ := of_decide_eq_true hk
  have e' := e
  unfold spec_l01Insert.pl at e'
  exact spec_l01Insert.calls 2000000 l0 _ _ t h0 (by omega) hl e' w base ok v HR hbase hfresh
section
variable {ops : Array Oper} {a : Act} {Q : Exit → Act → World → Prop}
/-- A call of it in a region that draws its order. -/
theorem spec_l01Insert.step {oi : Oper} {K : Act → World → Prop} {w0 W : World} (base : Nat) (hw : Region.wanted oi (yielded ops a.tmps) = true) (s y : Operand) {ts : Array TypeId} (hop : oi.op = .call { callee := .value (.func 30), args := #[s, y], argTypes := ts }) (v : Value) (xs : List S42) (p : S42) (ok : Nat → Prop) (hs : a.eval s = v) (hy : a.eval y = .agg #[.int .i64 p.f0, .int .i64 p.f1])
  (hfresh : ∀ k, W.heap.size ≤ k → ok k) (HO : Kd.R k42 42 W base ok v xs) (HB : Below base w0 W) (hbase : base ≤ W.heap.size) (hl : xs.length < 8796093022208 ∧ spec_l01Insert.ok xs p = true)
  (h : ∀ v1 w1, Kd.R k42 42 w1 base ok v1 (spec_l01Insert.ins xs p) → Below base w0 w1 → W.grownBy w1 v.ownBlock → (v1.ownBlock = v.ownBlock ∨ ∃ b, v1.ownBlock = some b ∧ W.heap.size ≤ b) → K (a.put oi.dst v1) w1) :
  if Region.wanted oi (yielded ops a.tmps) = true then Oper.wp Try.prog oi a W K Q else K (a.put oi.dst undef) W := by
 refine goes_ Try.func30 (by kernel_rfl) rfl _ hw rfl hop (by simp only [List.map_toArray, List.map_cons, List.map_nil, hs, hy]; rfl) ?_
 refine (spec_l01Insert.ins_calls xs p hl.1 hl.2 W base ok v HO hbase hfresh).mono ?_
 rintro e w1 ⟨v1, rfl, h1, h2, h3⟩
 exact ⟨v1, rfl, h v1 w1 h1 (below_then HB hbase h2) ⟨h2.os, h2.tape, h2.output, h2.size, fun k hk _ => h2.block k hk⟩ h3⟩
/-- The same in a plain region. -/
theorem spec_l01Insert.event {rest : List Oper} {oi : Oper} {w0 W : World} (base : Nat) (N : Option Tmp) (hd : oi.dst = N) (hg : oi.guard = none) (s y : Operand) {ts : Array TypeId} (hop : oi.op = .call { callee := .value (.func 30), args := #[s, y], argTypes := ts }) (v : Value) (xs : List S42) (p : S42) (ok : Nat → Prop) (hs : a.eval s = v) (hy : a.eval y = .agg #[.int .i64 p.f0, .int .i64 p.f1])
  (hfresh : ∀ k, W.heap.size ≤ k → ok k) (HO : Kd.R k42 42 W base ok v xs) (HB : Below base w0 W) (hbase : base ≤ W.heap.size) (hl : xs.length < 8796093022208 ∧ spec_l01Insert.ok xs p = true)
  (h : ∀ v1 w1, Kd.R k42 42 w1 base ok v1 (spec_l01Insert.ins xs p) → Below base w0 w1 → W.grownBy w1 v.ownBlock → (v1.ownBlock = v.ownBlock ∨ ∃ b, v1.ownBlock = some b ∧ W.heap.size ≤ b) → wpList Try.prog ops Q rest (a.put N v1) w1) :
  wpList Try.prog ops Q (oi :: rest) a W := by
 refine goesL_ N hd hg Try.func30 (by kernel_rfl) rfl _ hop (by simp only [List.map_toArray, List.map_cons, List.map_nil, hs, hy]; rfl) ?_
 refine (spec_l01Insert.ins_calls xs p hl.1 hl.2 W base ok v HO hbase hfresh).mono ?_
 rintro e w1 ⟨v1, rfl, h1, h2, h3⟩
 exact ⟨v1, rfl, h v1 w1 h1 (below_then HB hbase h2) ⟨h2.os, h2.tape, h2.output, h2.size, fun k hk _ => h2.block k hk⟩ h3⟩
end
end Go.Proofs.Ytfmjboloeabjmaa.PA
