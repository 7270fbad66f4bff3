/- Walks written by program: each Go function that the law reaches comes to the plain function beside it. -/
import Derived.Test.YtfmjboloeabjmaaPAx0
import Derived.Test.YtfmjboloeabjmaaPAx4
import Derived.Test.YtfmjboloeabjmaaPAx5
import Derived.Test.YtfmjboloeabjmaaPAx6
import Derived.Test.YtfmjboloeabjmaaPAx7
namespace Go.Proofs.Ytfmjboloeabjmaa.PA
open Go.RowKit Go.Proofs.YtfmjboloeabjmaaW.PrintWords Go.Proofs.YtfmjboloeabjmaaW.PrintLast Go.Proofs.YtfmjboloeabjmaaW.PrintMore
attribute [local go_sem] max2_int min2_int max_two min_two max_three min_three max_four min_four   -- for this text's walks alone
set_option linter.unusedVariables false
set_option linter.unusedSimpArgs false

attribute [local go_sem high] eqA44
/-! ### spec_IsGroup: function 24 -/
mutual
def spec_IsGroup.j0 : Nat → Int → List (S44) → Bool → Int → Int → Int → Option (Bool)
 | 0, _, _, _, _, _, _ => none
 | k + 1, x0, x2, x18, x244000, x244001, x244002 => if x18 = true then (some false) else (spec_IsGroup.l0 k x0 x2 0 x244000 x244001 x244002)
def spec_IsGroup.l0 : Nat → Int → List (S44) → Int → Int → Int → Int → Option (Bool)
 | 0, _, _, _, _, _, _ => none
 | k + 1, x0, x2, x7, x244000, x244001, x244002 => if x7 < (x2.length : Int) then (if 0 ≤ x7 then ((spec_IsSuitable.f k x0 x244000 x244001 x244002 ((rd_T44 x2 x7).f0.f0) ((rd_T44 x2 x7).f0.f1) ((rd_T44 x2 x7).f0.f2) ((rd_T44 x2 x7).f0.f3) ((rd_T44 x2 x7).f1.f0) ((rd_T44 x2 x7).f1.f1)).bind fun t246 => (if t246 = true then ((spec_l06Reduce.f x244000 x244001 x244002 ((rd_T44 x2 x7).f0.f0) ((rd_T44 x2 x7).f0.f1) ((rd_T44 x2 x7).f0.f2) ((rd_T44 x2 x7).f0.f3) ((rd_T44 x2 x7).f1.f0) ((rd_T44 x2 x7).f1.f1)).bind fun bt248 => (if ((!(bt248.1 == ((rd_T44 x2 x7).f0.f0)) || (!(bt248.2.1 == ((rd_T44 x2 x7).f0.f1)) || (!(bt248.2.2.1 == ((rd_T44 x2 x7).f0.f2)) || (!(bt248.2.2.2.1 == ((rd_T44 x2 x7).f0.f3)))))) || ((!(bt248.2.2.2.2.1 == ((rd_T44 x2 x7).f1.f0)) || (!(bt248.2.2.2.2.2 == ((rd_T44 x2 x7).f1.f1)))))) = true then (some false) else (if x7 > 0 then (if 0 ≤ (wrap64 (x7 - 1)) then (if (wrap64 (x7 - 1)) < (x2.length : Int) then ((spec_l05Less.f k ((rd_T44 x2 (wrap64 (x7 - 1))).f0.f0) ((rd_T44 x2 (wrap64 (x7 - 1))).f0.f1) ((rd_T44 x2 (wrap64 (x7 - 1))).f0.f2) ((rd_T44 x2 (wrap64 (x7 - 1))).f0.f3) ((rd_T44 x2 (wrap64 (x7 - 1))).f1.f0) ((rd_T44 x2 (wrap64 (x7 - 1))).f1.f1) ((rd_T44 x2 x7).f0.f0) ((rd_T44 x2 x7).f0.f1) ((rd_T44 x2 x7).f0.f2) ((rd_T44 x2 x7).f0.f3) ((rd_T44 x2 x7).f1.f0) ((rd_T44 x2 x7).f1.f1)).bind fun t257 => (if t257 = true then (spec_IsGroup.l0 k x0 x2 (wrap64 (x7 + 1)) x244000 x244001 x244002) else (some false))) else (none)) else (none)) else (spec_IsGroup.l0 k x0 x2 (wrap64 (x7 + 1)) x244000 x244001 x244002)))) else (some false))) else (none)) else ((spec_l06Unit.f).bind fun bt258 => ((spec_l06Has.f k x2 bt258.1 bt258.2.1 bt258.2.2.1 bt258.2.2.2.1 bt258.2.2.2.2.1 bt258.2.2.2.2.2).bind fun t264 => (if t264 = true then (spec_IsGroup.l1 k x2 0 x244000 x244001 x244002) else (some false))))
def spec_IsGroup.l1 : Nat → List (S44) → Int → Int → Int → Int → Option (Bool)
 | 0, _, _, _, _, _ => none
 | k + 1, x2, x8, x244000, x244001, x244002 => if x8 < (x2.length : Int) then (spec_IsGroup.l2 k x2 x8 0 x244000 x244001 x244002) else (some true)
def spec_IsGroup.l2 : Nat → List (S44) → Int → Int → Int → Int → Int → Option (Bool)
 | 0, _, _, _, _, _, _ => none
 | k + 1, x2, x8, x9, x244000, x244001, x244002 => if x9 < (x2.length : Int) then (if 0 ≤ x8 then (if x8 < (x2.length : Int) then (if 0 ≤ x9 then ((spec_l05Compose.f ((rd_T44 x2 x8).f0.f0) ((rd_T44 x2 x8).f0.f1) ((rd_T44 x2 x8).f0.f2) ((rd_T44 x2 x8).f0.f3) ((rd_T44 x2 x8).f1.f0) ((rd_T44 x2 x8).f1.f1) ((rd_T44 x2 x9).f0.f0) ((rd_T44 x2 x9).f0.f1) ((rd_T44 x2 x9).f0.f2) ((rd_T44 x2 x9).f0.f3) ((rd_T44 x2 x9).f1.f0) ((rd_T44 x2 x9).f1.f1)).bind fun bt267 => ((spec_l06Reduce.f x244000 x244001 x244002 bt267.1 bt267.2.1 bt267.2.2.1 bt267.2.2.2.1 bt267.2.2.2.2.1 bt267.2.2.2.2.2).bind fun bt273 => ((spec_l06Has.f k x2 bt273.1 bt273.2.1 bt273.2.2.1 bt273.2.2.2.1 bt273.2.2.2.2.1 bt273.2.2.2.2.2).bind fun t279 => (if t279 = true then (spec_IsGroup.l2 k x2 x8 (wrap64 (x9 + 1)) x244000 x244001 x244002) else (some false))))) else (none)) else (none)) else (none)) else (spec_IsGroup.l1 k x2 (wrap64 (x8 + 1)) x244000 x244001 x244002)
end
def spec_IsGroup.f (k : Nat) (a0 : Int) (a1_0 : Int) (a1_1 : Int) (a1_2 : Int) (l2 : List (S44)) : Option (Bool) := (spec_l04Code.f a0 a1_0 a1_1 a1_2).bind fun t244 => (if t244 = 0 then (spec_IsGroup.j0 k a0 l2 (decide ((l2.length : Int) > 768)) a1_0 a1_1 a1_2) else (spec_IsGroup.j0 k a0 l2 true a1_0 a1_1 a1_2))
def spec_IsGroup.T6 : Bool × List (List Nat × List Nat) := (true, [([], []), ([], []), ([], []), ([], []), ([2, 3], [2, 3]), ([4], [4]), ([0, 1, 5], [0, 1, 5]), ([6], [6]), ([7, 6], [7]), ([8], [8]), ([8], [8]), ([8], [8]), ([10, 11, 8], [8, 10, 11]), ([12, 8], [8, 12]), ([9, 13, 8, 8], [8, 9, 13]), ([8], [8]), ([8], [8]), ([15, 16, 8], [8, 15, 16]), ([17, 8], [8, 17]), ([14, 18, 8], [8, 14, 18]), ([8, 19], [8, 19]), ([20, 14], [20]), ([21], [21]), ([22, 21], [21, 22]), ([23, 21, 21], [21, 23]), ([24], [24]), ([24], [24]), ([26, 24], [24, 26]), ([25, 27, 24], [24, 25, 27]), ([28, 24], [24, 28]), ([24], [24]), ([24], [24]), ([30, 31, 24], [24, 30, 31]), ([32, 24], [24, 32]), ([29, 33, 24, 24], [24, 29, 33]), ([34, 24], [24, 34]), ([24, 35, 21], [21, 24, 35]), ([21, 36], [21, 36])])
def spec_IsGroup.B6 : List Nat := [0, 0, 0, 0, 12, 28, 63, 127, 255, 511, 511, 511, 3583, 7679, 16383, 511, 511, 98815, 229887, 524287, 1048575, 2097151, 4194303, 8388607, 16777215, 33554431, 33554431, 100663295, 268435455, 536870911, 33554431, 33554431, 3254779903, 7549747199, 17179869183, 34359738367, 68719476735, 137438953471]
theorem spec_IsGroup.tab6 : rtab .any (opsOf Try.f24 6) = spec_IsGroup.T6 := by kernel_rfl
theorem spec_IsGroup.bits6 : waitsOk spec_IsGroup.T6.2 spec_IsGroup.B6 = true := by kernel_rfl
def spec_IsGroup.T16 : Bool × List (List Nat × List Nat) := (true, [([], []), ([], []), ([], []), ([], []), ([2, 3], [2, 3]), ([4], [4]), ([], []), ([], []), ([6, 7], [6, 7]), ([8], [8]), ([5, 9], [5, 9]), ([1, 10, 10], [1, 10]), ([0, 11, 11], [0, 11]), ([12], [12])])
def spec_IsGroup.B16 : List Nat := [0, 0, 0, 0, 12, 28, 0, 0, 192, 448, 1020, 2046, 4095, 8191]
theorem spec_IsGroup.tab16 : rtab .any (opsOf Try.f24 16) = spec_IsGroup.T16 := by kernel_rfl
theorem spec_IsGroup.bits16 : waitsOk spec_IsGroup.T16.2 spec_IsGroup.B16 = true := by kernel_rfl
set_option maxHeartbeats 8000000 in
set_option maxRecDepth 100000 in
theorem spec_IsGroup.calls (k : Nat) (a0 : Int) (a1_0 : Int) (a1_1 : Int) (a1_2 : Int) (A2 : Option Addr) (c2 : Nat) (l2 : List (S44)) (r : Bool) (w : World) (hr2 : Kd.C k44 w A2 l2.length l2) (hc2 : l2.length ≤ c2) (h : spec_IsGroup.f k a0 a1_0 a1_1 a1_2 l2 = some r) :
  Calls Try.prog 24 #[.int .i64 a0, .agg #[.int .i64 a1_0, .int .i64 a1_1, .int .i64 a1_2], .slice A2 l2.length c2] w fun e w' => e = .returned (.bool r) ∧ Below w.heap.size w w' := by
 have hu28 := Try.underlying28
 have hu44 := Try.underlying44
 have HR2 := Aside0.mk hr2
 have HC2 := Aside0.mk hc2
 clear hr2 hc2
 have HB := asd (Below.refl w.heap.size w)
 have H : ((spec_l04Code.f a0 a1_0 a1_1 a1_2).bind fun t244 => (if t244 = 0 then (spec_IsGroup.j0 k a0 l2 (decide ((l2.length : Int) > 768)) a1_0 a1_1 a1_2) else (spec_IsGroup.j0 k a0 l2 true a1_0 a1_1 a1_2))) = some r := h
 clear h
 have HC4 := Aside0.mk H
 clear H
 go_enter Try.func24, Try.ntmps24
 go_upto_region 1 with (first | ((with_reducible refine gd 4 rfl ?_); (try (refine gate_guard (by rfl) ?_; dsimp only)); refine bx #[.int .i64 a1_0, .int .i64 a1_1, .int .i64 a1_2] 28 ?_; intro gb243 hg w5 BK243 hb; have GE243 := ngw0 hg HB; replace HB := bS0 HB hb; clear hb hg))
 (try simp only [Act.put, sA, sB, sC])
 go_cut [18] (fun v18 wc => ∃ (kq : Nat) (x18_3 : Bool), v18 = .bool x18_3 ∧ Aside0 (spec_IsGroup.j0 kq a0 l2 x18_3 a1_0 a1_1 a1_2 = some r) ∧ Aside0 (kq ≤ k) ∧ Aside0 (wc.heap[gb243]? = some (.cells #[.int .i64 a1_0, .int .i64 a1_1, .int .i64 a1_2] 28 (0, 0))) ∧ Aside0 (Below w.heap.size w wc))
 case first =>
  have H := HC4.out
  clear HC4
  obtain ⟨t244, A6, H⟩ := ob H
  try dsimp only at H
  by_cases c7 : t244 = 0
  rw [if_pos c7] at H
  have c7b0 : (t244 == 0) = true := beq_iff_eq.mpr c7
  have c7b1 : (t244 != 0) = false := bne_eq_false_iff_eq.mpr c7
  clear c7
  rotate_left
  rw [if_neg c7] at H
  have c7b0 : (t244 == 0) = false := beq_eq_false_iff_ne.mpr c7
  have c7b1 : (t244 != 0) = true := bne_iff_ne.mpr c7
  rotate_left
  all_goals
   (first | rw [c7b0] | (simp only [i64_w, i32_w]; rw [c7b0]) | skip)
   have H' := Aside0.mk H
   clear H
  obtain ⟨hcz8_0, hcz8_1, hcz8_2, hfz8_0, hfz8_1, hfz8_2⟩ := bz3 BK243
  rotate_left
  obtain ⟨hcz10_0, hcz10_1, hcz10_2, hfz10_0, hfz10_1, hfz10_2⟩ := bz3 BK243
  rotate_left
  all_goals
   focus go_wp2_with (first | ((with_reducible refine gate_callee (f := 41) rfl ?_); refine gl 12 Try.func41 #[.int .i64 a0, .agg #[.int .i64 a1_0, .int .i64 a1_1, .int .i64 a1_2]] ?_; (with_reducible refine (spec_l04Code.calls _ _ _ _ _ _ A6.out).mono ?_); rintro e w9 ⟨rfl, hb⟩; refine ⟨_, rfl, ?_⟩; replace BK243 := bB BK243 hb; replace HB := bS1 HB GE243 hb; (try clear hb)))
   go_meet
  ·case rel => exact ⟨_, (decide ((l2.length : Int) > 768)), (by first | rfl | (simp; done) | (simp [*]; done)), H', ⟨by first | omega | exact Nat.le_refl _⟩, ⟨bkp BK243⟩, ⟨bbw1 HB GE243⟩⟩
  ·case rel => exact ⟨_, (true), (by first | rfl | (simp; done) | (simp [*]; done)), H', ⟨by first | omega | exact Nat.le_refl _⟩, ⟨bkp BK243⟩, ⟨bbw1 HB GE243⟩⟩
 case rest =>
  clear HC4
  try clear c2
  try clear p2
  try clear c4
  try clear c7
  try clear c7b0
  try clear c7b1
  try clear hcz10_0
  try clear hcz10_1
  try clear hcz10_2
  try clear hcz8_0
  try clear hcz8_1
  try clear hcz8_2
  try clear hfz10_0
  try clear hfz10_1
  try clear hfz10_2
  try clear hfz8_0
  try clear hfz8_1
  try clear hfz8_2
  obtain ⟨kq, x18_3, rfl, HA, HJ3, BK243, HB⟩ := hcut
  cases kq with
  | zero => exact absurd HA.out (by simp [spec_IsGroup.j0])
  | succ kj3 =>
   have H := HA.out
   clear HA
   simp only [spec_IsGroup.j0] at H
   by_cases c12 : x18_3 = true
   ·subst c12
    replace H := ifT H
    obtain rfl := Option.some.inj H
    focus go_wp2
    go_ret
    exact er (bbw1 HB GE243)
   ·replace c12 := Bool.eq_false_iff.mpr c12
    subst c12
    replace H := ifF H
    have H' := Aside0.mk H
    clear H
    focus go_wp2
    go_loopg [7] kj3 (fun kq v7 w' => ∃ (x7_2 : Int), v7 = .int .i64 x7_2 ∧ Aside0 (spec_IsGroup.l0 kq a0 l2 x7_2 a1_0 a1_1 a1_2 = some r) ∧ Aside0 (kq ≤ kj3) ∧ Aside0 (w'.heap[gb243]? = some (.cells #[.int .i64 a1_0, .int .i64 a1_1, .int .i64 a1_2] 28 (0, 0))) ∧ Aside0 (Below w.heap.size w w'))
    case atStart => exact ⟨(0), (by first | rfl | (simp; done) | (simp [*]; done)), H', ⟨Nat.le_refl _⟩, ⟨bkp BK243⟩, ⟨bbw1 HB GE243⟩⟩
    case round =>
     clear H'
     try clear c1
     try clear c2
     try clear p2
     try clear c4
     try clear c7
     try clear c7b0
     try clear c7b1
     try clear c12
     try clear hcz10_0
     try clear hcz10_1
     try clear hcz10_2
     try clear hcz8_0
     try clear hcz8_1
     try clear hcz8_2
     try clear hfz10_0
     try clear hfz10_1
     try clear hfz10_2
     try clear hfz8_0
     try clear hfz8_1
     try clear hfz8_2
     try clear p2
     obtain ⟨x7_2, rfl, HA, HK2, BK243, HB⟩ := hrel
     cases gk with
     | zero => exact absurd HA.out (by simp [spec_IsGroup.l0])
     | succ k2 =>
      have H := HA.out
      clear HA
      simp only [spec_IsGroup.l0] at H
      by_cases c13 : x7_2 < (l2.length : Int)
      rw [if_pos c13] at H
      have c13b0 := decide_eq_true c13
      clear c13
      by_cases c14 : 0 ≤ x7_2
      rw [if_pos c14] at H
      have c14b0 := decide_eq_true c14
      clear c14
      obtain ⟨t246, A15, H⟩ := ob H
      try dsimp only at H
      by_cases c16 : t246 = true
      subst c16
      replace H := ifT H
      obtain ⟨⟨t248, t249, t250, t251, t252, t253⟩, A17, H⟩ := ob H
      try dsimp only at H
      by_cases c18 : ((!(t248 == ((rd_T44 l2 x7_2).f0.f0)) || (!(t249 == ((rd_T44 l2 x7_2).f0.f1)) || (!(t250 == ((rd_T44 l2 x7_2).f0.f2)) || (!(t251 == ((rd_T44 l2 x7_2).f0.f3)))))) || ((!(t252 == ((rd_T44 l2 x7_2).f1.f0)) || (!(t253 == ((rd_T44 l2 x7_2).f1.f1)))))) = true
      rw [if_pos c18] at H
      have c18b0 := c18
      clear c18
      obtain rfl := Option.some.inj H
      rotate_left
      rw [if_neg c18] at H
      have c18b0 : ((!(t248 == ((rd_T44 l2 x7_2).f0.f0)) || (!(t249 == ((rd_T44 l2 x7_2).f0.f1)) || (!(t250 == ((rd_T44 l2 x7_2).f0.f2)) || (!(t251 == ((rd_T44 l2 x7_2).f0.f3)))))) || ((!(t252 == ((rd_T44 l2 x7_2).f1.f0)) || (!(t253 == ((rd_T44 l2 x7_2).f1.f1)))))) = false := by simpa using c18
      clear c18
      by_cases c22 : x7_2 > 0
      rw [if_pos c22] at H
      have c22b0 : decide (0 < x7_2) = true := decide_eq_true c22
      clear c22
      obtain ⟨ji23, hji23⟩ : ∃ j_ : Int, (wrap64 (x7_2 - 1)) = j_ := ⟨_, rfl⟩
      replace H : (if 0 ≤ (ji23) then (if (ji23) < (l2.length : Int) then ((spec_l05Less.f k2 ((rd_T44 l2 (ji23)).f0.f0) ((rd_T44 l2 (ji23)).f0.f1) ((rd_T44 l2 (ji23)).f0.f2) ((rd_T44 l2 (ji23)).f0.f3) ((rd_T44 l2 (ji23)).f1.f0) ((rd_T44 l2 (ji23)).f1.f1) ((rd_T44 l2 x7_2).f0.f0) ((rd_T44 l2 x7_2).f0.f1) ((rd_T44 l2 x7_2).f0.f2) ((rd_T44 l2 x7_2).f0.f3) ((rd_T44 l2 x7_2).f1.f0) ((rd_T44 l2 x7_2).f1.f1)).bind fun t257 => (if t257 = true then (spec_IsGroup.l0 k2 a0 l2 (wrap64 (x7_2 + 1)) a1_0 a1_1 a1_2) else (some false))) else (none)) else (none)) = some r := by first | (rw [hji23] at H; first | done | exact H) | (simp only [hji23] at H ⊢; exact H)
      (try rw [hji23] at A15)
      (try rw [hji23] at A17)
      have hji23w : (IntKind.i64.wrap (x7_2 - 1)) = ji23 := (i64_w _).trans hji23
      by_cases c24 : 0 ≤ (ji23)
      rw [if_pos c24] at H
      have c24b0 := decide_eq_true c24
      clear c24
      by_cases c25 : (ji23) < (l2.length : Int)
      rw [if_pos c25] at H
      have c25b0 := decide_eq_true c25
      clear c25
      obtain ⟨t257, A26, H⟩ := ob H
      try dsimp only at H
      by_cases c27 : t257 = true
      subst c27
      replace H := ifT H
      have H' := Aside0.mk H
      clear H
      rotate_left
      replace c27 := Bool.eq_false_iff.mpr c27
      subst c27
      replace H := ifF H
      obtain rfl := Option.some.inj H
      rotate_left
      ·rw [if_neg c25] at H
       exact absurd H (by simp)
      ·rw [if_neg c24] at H
       exact absurd H (by simp)
      rw [if_neg c22] at H
      have c22b0 : decide (0 < x7_2) = false := decide_eq_false c22
      clear c22
      have H' := Aside0.mk H
      clear H
      rotate_left
      replace c16 := Bool.eq_false_iff.mpr c16
      subst c16
      replace H := ifF H
      obtain rfl := Option.some.inj H
      rotate_left
      ·rw [if_neg c14] at H
       exact absurd H (by simp)
      rw [if_neg c13] at H
      have c13b0 := decide_eq_false c13
      clear c13
      obtain ⟨⟨t258, t259, t260, t261, t262, t263⟩, A41, H⟩ := ob H
      try dsimp only at H
      obtain ⟨t264, A42, H⟩ := ob H
      try dsimp only at H
      by_cases c43 : t264 = true
      subst c43
      replace H := ifT H
      have H' := Aside0.mk H
      clear H
      rotate_left
      replace c43 := Bool.eq_false_iff.mpr c43
      subst c43
      replace H := ifF H
      obtain rfl := Option.some.inj H
      rotate_left
      focus try go_wp2
      replace BK243 := asd (blk_drew BK243.out)
      replace HB := asd (below_drew1 HB.out)
      obtain ⟨p245, q245, ad245, e245, hw245_0, hw245_1, hw245_2, hw245_3, hw245_4, hw245_5, hx245_0, hx245_1, hx245_2, hx245_3, hx245_4, hx245_5⟩ := at_T44w HR2.out HB x7_2
      cases e245
      obtain ⟨p247, q247, ad247, e247, hw247_0, hw247_1, hw247_2, hw247_3, hw247_4, hw247_5, hx247_0, hx247_1, hx247_2, hx247_3, hx247_4, hx247_5⟩ := at_T44w HR2.out HB x7_2
      obtain rfl : ad245 = ad247 := (by injection e247)
      obtain ⟨p254, q254, ad254, e254, hw254_0, hw254_1, hw254_2, hw254_3, hw254_4, hw254_5, hx254_0, hx254_1, hx254_2, hx254_3, hx254_4, hx254_5⟩ := at_T44w HR2.out HB x7_2
      obtain rfl : ad245 = ad254 := (by injection e254)
      refine sh 38 (cb3 BK243 (cx6 HB hw245_0 hw245_1 hw245_2 hw245_3 hw245_4 hw245_5 (cx6 HB hw247_0 hw247_1 hw247_2 hw247_3 hw247_4 hw247_5 (ex6 HB hw254_0 hw254_1 hw254_2 hw254_3 hw254_4 hw254_5)))) (fun hHeld => ?_); refine with_tabW spec_IsGroup.tab6 spec_IsGroup.bits6 (fun HT_ HW_ => ?_)
      generalize wr.drew = w19 at BK243 HB hx245_0 hx245_1 hx245_2 hx245_3 hx245_4 hx245_5 hx247_0 hx247_1 hx247_2 hx247_3 hx247_4 hx247_5 hx254_0 hx254_1 hx254_2 hx254_3 hx254_4 hx254_5 hHeld ⊢
      rotate_left
      focus try go_wp2
      replace BK243 := asd (blk_drew BK243.out)
      replace HB := asd (below_drew1 HB.out)
      obtain ⟨p245, q245, ad245, e245, hw245_0, hw245_1, hw245_2, hw245_3, hw245_4, hw245_5, hx245_0, hx245_1, hx245_2, hx245_3, hx245_4, hx245_5⟩ := at_T44w HR2.out HB x7_2
      cases e245
      obtain ⟨p247, q247, ad247, e247, hw247_0, hw247_1, hw247_2, hw247_3, hw247_4, hw247_5, hx247_0, hx247_1, hx247_2, hx247_3, hx247_4, hx247_5⟩ := at_T44w HR2.out HB x7_2
      obtain rfl : ad245 = ad247 := (by injection e247)
      obtain ⟨p254, q254, ad254, e254, hw254_0, hw254_1, hw254_2, hw254_3, hw254_4, hw254_5, hx254_0, hx254_1, hx254_2, hx254_3, hx254_4, hx254_5⟩ := at_T44w HR2.out HB x7_2
      obtain rfl : ad245 = ad254 := (by injection e254)
      obtain ⟨p255, q255, ad255, e255, hw255_0, hw255_1, hw255_2, hw255_3, hw255_4, hw255_5, hx255_0, hx255_1, hx255_2, hx255_3, hx255_4, hx255_5⟩ := at_T44w HR2.out HB (ji23)
      obtain rfl : ad245 = ad255 := (by injection e255)
      obtain ⟨p256, q256, ad256, e256, hw256_0, hw256_1, hw256_2, hw256_3, hw256_4, hw256_5, hx256_0, hx256_1, hx256_2, hx256_3, hx256_4, hx256_5⟩ := at_T44w HR2.out HB x7_2
      obtain rfl : ad245 = ad256 := (by injection e256)
      refine sh 38 (cb3 BK243 (cx6 HB hw245_0 hw245_1 hw245_2 hw245_3 hw245_4 hw245_5 (cx6 HB hw247_0 hw247_1 hw247_2 hw247_3 hw247_4 hw247_5 (cx6 HB hw254_0 hw254_1 hw254_2 hw254_3 hw254_4 hw254_5 (cx6 HB hw255_0 hw255_1 hw255_2 hw255_3 hw255_4 hw255_5 (ex6 HB hw256_0 hw256_1 hw256_2 hw256_3 hw256_4 hw256_5)))))) (fun hHeld => ?_); refine with_tabW spec_IsGroup.tab6 spec_IsGroup.bits6 (fun HT_ HW_ => ?_)
      generalize wr.drew = w28 at BK243 HB hx245_0 hx245_1 hx245_2 hx245_3 hx245_4 hx245_5 hx247_0 hx247_1 hx247_2 hx247_3 hx247_4 hx247_5 hx254_0 hx254_1 hx254_2 hx254_3 hx254_4 hx254_5 hx255_0 hx255_1 hx255_2 hx255_3 hx255_4 hx255_5 hx256_0 hx256_1 hx256_2 hx256_3 hx256_4 hx256_5 hHeld ⊢
      rotate_left
      focus try go_wp2
      replace BK243 := asd (blk_drew BK243.out)
      replace HB := asd (below_drew1 HB.out)
      obtain ⟨p245, q245, ad245, e245, hw245_0, hw245_1, hw245_2, hw245_3, hw245_4, hw245_5, hx245_0, hx245_1, hx245_2, hx245_3, hx245_4, hx245_5⟩ := at_T44w HR2.out HB x7_2
      cases e245
      obtain ⟨p247, q247, ad247, e247, hw247_0, hw247_1, hw247_2, hw247_3, hw247_4, hw247_5, hx247_0, hx247_1, hx247_2, hx247_3, hx247_4, hx247_5⟩ := at_T44w HR2.out HB x7_2
      obtain rfl : ad245 = ad247 := (by injection e247)
      obtain ⟨p254, q254, ad254, e254, hw254_0, hw254_1, hw254_2, hw254_3, hw254_4, hw254_5, hx254_0, hx254_1, hx254_2, hx254_3, hx254_4, hx254_5⟩ := at_T44w HR2.out HB x7_2
      obtain rfl : ad245 = ad254 := (by injection e254)
      obtain ⟨p255, q255, ad255, e255, hw255_0, hw255_1, hw255_2, hw255_3, hw255_4, hw255_5, hx255_0, hx255_1, hx255_2, hx255_3, hx255_4, hx255_5⟩ := at_T44w HR2.out HB (ji23)
      obtain rfl : ad245 = ad255 := (by injection e255)
      obtain ⟨p256, q256, ad256, e256, hw256_0, hw256_1, hw256_2, hw256_3, hw256_4, hw256_5, hx256_0, hx256_1, hx256_2, hx256_3, hx256_4, hx256_5⟩ := at_T44w HR2.out HB x7_2
      obtain rfl : ad245 = ad256 := (by injection e256)
      refine sh 38 (cb3 BK243 (cx6 HB hw245_0 hw245_1 hw245_2 hw245_3 hw245_4 hw245_5 (cx6 HB hw247_0 hw247_1 hw247_2 hw247_3 hw247_4 hw247_5 (cx6 HB hw254_0 hw254_1 hw254_2 hw254_3 hw254_4 hw254_5 (cx6 HB hw255_0 hw255_1 hw255_2 hw255_3 hw255_4 hw255_5 (ex6 HB hw256_0 hw256_1 hw256_2 hw256_3 hw256_4 hw256_5)))))) (fun hHeld => ?_); refine with_tabW spec_IsGroup.tab6 spec_IsGroup.bits6 (fun HT_ HW_ => ?_)
      generalize wr.drew = w32 at BK243 HB hx245_0 hx245_1 hx245_2 hx245_3 hx245_4 hx245_5 hx247_0 hx247_1 hx247_2 hx247_3 hx247_4 hx247_5 hx254_0 hx254_1 hx254_2 hx254_3 hx254_4 hx254_5 hx255_0 hx255_1 hx255_2 hx255_3 hx255_4 hx255_5 hx256_0 hx256_1 hx256_2 hx256_3 hx256_4 hx256_5 hHeld ⊢
      rotate_left
      focus try go_wp2
      replace BK243 := asd (blk_drew BK243.out)
      replace HB := asd (below_drew1 HB.out)
      obtain ⟨p245, q245, ad245, e245, hw245_0, hw245_1, hw245_2, hw245_3, hw245_4, hw245_5, hx245_0, hx245_1, hx245_2, hx245_3, hx245_4, hx245_5⟩ := at_T44w HR2.out HB x7_2
      cases e245
      obtain ⟨p247, q247, ad247, e247, hw247_0, hw247_1, hw247_2, hw247_3, hw247_4, hw247_5, hx247_0, hx247_1, hx247_2, hx247_3, hx247_4, hx247_5⟩ := at_T44w HR2.out HB x7_2
      obtain rfl : ad245 = ad247 := (by injection e247)
      obtain ⟨p254, q254, ad254, e254, hw254_0, hw254_1, hw254_2, hw254_3, hw254_4, hw254_5, hx254_0, hx254_1, hx254_2, hx254_3, hx254_4, hx254_5⟩ := at_T44w HR2.out HB x7_2
      obtain rfl : ad245 = ad254 := (by injection e254)
      refine sh 38 (cb3 BK243 (cx6 HB hw245_0 hw245_1 hw245_2 hw245_3 hw245_4 hw245_5 (cx6 HB hw247_0 hw247_1 hw247_2 hw247_3 hw247_4 hw247_5 (ex6 HB hw254_0 hw254_1 hw254_2 hw254_3 hw254_4 hw254_5)))) (fun hHeld => ?_); refine with_tabW spec_IsGroup.tab6 spec_IsGroup.bits6 (fun HT_ HW_ => ?_)
      generalize wr.drew = w36 at BK243 HB hx245_0 hx245_1 hx245_2 hx245_3 hx245_4 hx245_5 hx247_0 hx247_1 hx247_2 hx247_3 hx247_4 hx247_5 hx254_0 hx254_1 hx254_2 hx254_3 hx254_4 hx254_5 hHeld ⊢
      rotate_left
      focus try go_wp2
      replace BK243 := asd (blk_drew BK243.out)
      replace HB := asd (below_drew1 HB.out)
      obtain ⟨p245, q245, ad245, e245, hw245_0, hw245_1, hw245_2, hw245_3, hw245_4, hw245_5, hx245_0, hx245_1, hx245_2, hx245_3, hx245_4, hx245_5⟩ := at_T44w HR2.out HB x7_2
      cases e245
      refine sh 38 (cb3 BK243 (ex6 HB hw245_0 hw245_1 hw245_2 hw245_3 hw245_4 hw245_5)) (fun hHeld => ?_); refine with_tabW spec_IsGroup.tab6 spec_IsGroup.bits6 (fun HT_ HW_ => ?_)
      generalize wr.drew = w39 at BK243 HB hx245_0 hx245_1 hx245_2 hx245_3 hx245_4 hx245_5 hHeld ⊢
      rotate_left
      ·focus go_wp2_with (first | ((with_reducible refine gate_callee (f := 46) rfl ?_); refine gl 64 Try.func46 #[] ?_; (with_reducible refine (spec_l06Unit.calls _ _ _ _ _ _ _ A41.out).mono ?_); rintro e w44 ⟨rfl, hb⟩; refine ⟨_, rfl, ?_⟩; replace BK243 := bB BK243 hb; replace HB := bS1 HB GE243 hb; (try clear hb)) | ((with_reducible refine gate_callee (f := 45) rfl ?_); refine gl 65 Try.func45 #[.slice A2 l2.length c2, .agg #[.int .i64 t258, .int .i64 t259, .int .i64 t260, .int .i64 t261, .int .i64 t262, .int .i64 t263]] ?_; (with_reducible refine (spec_l06Has.calls _ _ _ _ _ _ _ _ _ _ _ _ ?side1 ?side2 A42.out).mono ?_); (case side1 => exact ks (Kd.C_below HR2.out HB.out)); (case side2 => exact HC2.out); rintro e w45 ⟨rfl, hb⟩; refine ⟨_, rfl, ?_⟩; replace BK243 := bB BK243 hb; replace HB := bS1 HB GE243 hb; (try clear hb)))
       go_loopg [8] k2 (fun kq v8 w' => ∃ (x8_3 : Int), v8 = .int .i64 x8_3 ∧ Aside0 (spec_IsGroup.l1 kq l2 x8_3 a1_0 a1_1 a1_2 = some r) ∧ Aside0 (kq ≤ k2) ∧ Aside0 (w'.heap[gb243]? = some (.cells #[.int .i64 a1_0, .int .i64 a1_1, .int .i64 a1_2] 28 (0, 0))) ∧ Aside0 (Below w.heap.size w w'))
       case atStart => exact ⟨(0), (by first | rfl | (simp; done) | (simp [*]; done)), H', ⟨Nat.le_refl _⟩, ⟨bkp BK243⟩, ⟨bbw1 HB GE243⟩⟩
       case round =>
        clear H'
        try clear c1
        try clear c2
        try clear p2
        try clear q2
        try clear hx2
        try clear c4
        try clear p6
        try clear c13
        try clear c13b0
        try clear c14
        try clear c16
        try clear p24
        try clear q24
        try clear hx24
        try clear p25
        try clear q25
        try clear hx25
        try clear c42
        try clear c43
        try clear c45
        try clear hx245_0
        try clear hx245_1
        try clear hx245_2
        try clear hx245_3
        try clear hx245_4
        try clear hx245_5
        try clear hx247_0
        try clear hx247_1
        try clear hx247_2
        try clear hx247_3
        try clear hx247_4
        try clear hx247_5
        try clear hx254_0
        try clear hx254_1
        try clear hx254_2
        try clear hx254_3
        try clear hx254_4
        try clear hx254_5
        try clear p245
        try clear p247
        try clear p254
        try clear q245
        try clear q247
        try clear q254
        obtain ⟨x8_3, rfl, HA, HK3, BK243, HB⟩ := hrel
        cases gk with
        | zero => exact absurd HA.out (by simp [spec_IsGroup.l1])
        | succ k3 =>
         have H := HA.out
         clear HA
         simp only [spec_IsGroup.l1] at H
         by_cases c46 : x8_3 < (l2.length : Int)
         ·rw [if_pos c46] at H
          have c46b0 := decide_eq_true c46
          clear c46
          have H' := Aside0.mk H
          clear H
          focus go_wp2
          go_loopg [9] k3 (fun kq v9 w' => ∃ (x9_4 : Int), v9 = .int .i64 x9_4 ∧ Aside0 (spec_IsGroup.l2 kq l2 x8_3 x9_4 a1_0 a1_1 a1_2 = some r) ∧ Aside0 (kq ≤ k3) ∧ Aside0 (w'.heap[gb243]? = some (.cells #[.int .i64 a1_0, .int .i64 a1_1, .int .i64 a1_2] 28 (0, 0))) ∧ Aside0 (Below w.heap.size w w'))
          case atStart => exact ⟨(0), (by first | rfl | (simp; done) | (simp [*]; done)), H', ⟨Nat.le_refl _⟩, ⟨bkp BK243⟩, ⟨bbw1 HB GE243⟩⟩
          case round =>
           clear H'
           try clear c1
           try clear c2
           try clear p2
           try clear q2
           try clear hx2
           try clear c4
           try clear p6
           try clear c13
           try clear c13b0
           try clear c14
           try clear c16
           try clear p24
           try clear q24
           try clear hx24
           try clear p25
           try clear q25
           try clear hx25
           try clear c42
           try clear c43
           try clear c45
           try clear c46
           try clear c46b0
           try clear hx245_0
           try clear hx245_1
           try clear hx245_2
           try clear hx245_3
           try clear hx245_4
           try clear hx245_5
           try clear hx247_0
           try clear hx247_1
           try clear hx247_2
           try clear hx247_3
           try clear hx247_4
           try clear hx247_5
           try clear hx254_0
           try clear hx254_1
           try clear hx254_2
           try clear hx254_3
           try clear hx254_4
           try clear hx254_5
           try clear p2
           try clear p24
           try clear p245
           try clear p247
           try clear p25
           try clear p254
           try clear p6
           try clear q2
           try clear q24
           try clear q245
           try clear q247
           try clear q25
           try clear q254
           obtain ⟨x9_4, rfl, HA, HK4, BK243, HB⟩ := hrel
           cases gk with
           | zero => exact absurd HA.out (by simp [spec_IsGroup.l2])
           | succ k4 =>
            have H := HA.out
            clear HA
            simp only [spec_IsGroup.l2] at H
            by_cases c47 : x9_4 < (l2.length : Int)
            rw [if_pos c47] at H
            have c47b0 := decide_eq_true c47
            clear c47
            by_cases c48 : 0 ≤ x8_3
            rw [if_pos c48] at H
            have c48b0 := decide_eq_true c48
            clear c48
            by_cases c49 : x8_3 < (l2.length : Int)
            rw [if_pos c49] at H
            have c49b0 := decide_eq_true c49
            clear c49
            by_cases c50 : 0 ≤ x9_4
            rw [if_pos c50] at H
            have c50b0 := decide_eq_true c50
            clear c50
            obtain ⟨⟨t267, t268, t269, t270, t271, t272⟩, A51, H⟩ := ob H
            try dsimp only at H
            obtain ⟨⟨t273, t274, t275, t276, t277, t278⟩, A52, H⟩ := ob H
            try dsimp only at H
            obtain ⟨t279, A53, H⟩ := ob H
            try dsimp only at H
            by_cases c54 : t279 = true
            subst c54
            replace H := ifT H
            have H' := Aside0.mk H
            clear H
            rotate_left
            replace c54 := Bool.eq_false_iff.mpr c54
            subst c54
            replace H := ifF H
            obtain rfl := Option.some.inj H
            rotate_left
            ·rw [if_neg c50] at H
             exact absurd H (by simp)
            ·rw [if_neg c49] at H
             exact absurd H (by simp)
            ·rw [if_neg c48] at H
             exact absurd H (by simp)
            rw [if_neg c47] at H
            have c47b0 := decide_eq_false c47
            clear c47
            have H' := Aside0.mk H
            clear H
            rotate_left
            rotate_left 2
            ·focus go_wp2
             go_roundg k4
             case measure => have := HJ3.out; have := HK2.out; have := HK3.out; have := HK4.out; omega
             case rel => exact ⟨(wrap64 (x8_3 + 1)), (by first | rfl | (simp; done) | (simp [*]; done)), H', ⟨by have := HJ3.out; have := HK2.out; have := HK3.out; have := HK4.out; omega⟩, ⟨bkp BK243⟩, ⟨bbw1 HB GE243⟩⟩
            all_goals
             focus try go_wp2
             replace BK243 := asd (blk_drew BK243.out)
             replace HB := asd (below_drew1 HB.out)
             obtain ⟨p265, q265, ad265, e265, hw265_0, hw265_1, hw265_2, hw265_3, hw265_4, hw265_5, hx265_0, hx265_1, hx265_2, hx265_3, hx265_4, hx265_5⟩ := at_T44w HR2.out HB x8_3
             cases e265
             obtain ⟨p266, q266, ad266, e266, hw266_0, hw266_1, hw266_2, hw266_3, hw266_4, hw266_5, hx266_0, hx266_1, hx266_2, hx266_3, hx266_4, hx266_5⟩ := at_T44w HR2.out HB x9_4
             obtain rfl : ad265 = ad266 := (by injection e266)
             refine sh 14 (cb3 BK243 (cx6 HB hw265_0 hw265_1 hw265_2 hw265_3 hw265_4 hw265_5 (ex6 HB hw266_0 hw266_1 hw266_2 hw266_3 hw266_4 hw266_5))) (fun hHeld => ?_); refine with_tabW spec_IsGroup.tab16 spec_IsGroup.bits16 (fun HT_ HW_ => ?_)
             generalize wr.drew = w55 at BK243 HB hx265_0 hx265_1 hx265_2 hx265_3 hx265_4 hx265_5 hx266_0 hx266_1 hx266_2 hx266_3 hx266_4 hx266_5 hHeld ⊢
             refine pu 0 (some 79) (bT 14 1) HT_ ?_
             refine pu 2 (some 81) (bs 14 5) HT_ ?_
             refine pu 3 (some 82) (bs 14 13) HT_ ?_
             refine pu 4 (some 83) (bs 14 29) HT_ ?_
             refine pu 6 (some 85) (bs 14 93) HT_ ?_
             refine pu 7 (some 86) (bs 14 221) HT_ ?_
             refine pu 8 (some 87) (bs 14 477) HT_ ?_
             refine ta 1 (some 80) (bs 14 479) HT_ HW_ hHeld ?_
             refine ta 5 (some 84) (bT 14 9) HT_ HW_ hHeld ?_
             refine ta 9 (some 88) (bT 14 10) HT_ HW_ hHeld ?_
             refine ro 10 (some 89) (bT 14 11) HT_ (fun K hK => ?_)
             refine gs Try.func47 #[.agg #[.int .i64 ((rd_T44 l2 x8_3).f0.f0), .int .i64 ((rd_T44 l2 x8_3).f0.f1), .int .i64 ((rd_T44 l2 x8_3).f0.f2), .int .i64 ((rd_T44 l2 x8_3).f0.f3), .int .i64 ((rd_T44 l2 x8_3).f1.f0), .int .i64 ((rd_T44 l2 x8_3).f1.f1)], .agg #[.int .i64 ((rd_T44 l2 x9_4).f0.f0), .int .i64 ((rd_T44 l2 x9_4).f0.f1), .int .i64 ((rd_T44 l2 x9_4).f0.f2), .int .i64 ((rd_T44 l2 x9_4).f0.f3), .int .i64 ((rd_T44 l2 x9_4).f1.f0), .int .i64 ((rd_T44 l2 x9_4).f1.f1)]] ?_
             with_reducible refine (spec_l05Compose.calls _ _ _ _ _ _ _ _ _ _ _ _ _ _ _ _ _ _ _ A51.out).mono ?_
             rintro e w56 ⟨rfl, hb⟩
             refine ⟨_, rfl, ?_⟩
             replace BK243 := bB BK243 hb
             replace HB := bS1 HB GE243 hb
             (try clear hb)
             (try clear hb2)
             (try clear hk)
             (try clear hi)
             refine hK.out _ _ (cb3 BK243 (cx6 HB hw265_0 hw265_1 hw265_2 hw265_3 hw265_4 hw265_5 (ex6 HB hw266_0 hw266_1 hw266_2 hw266_3 hw266_4 hw266_5))).out (fun hHeld => ?_)
             clear hK K
             refine norm_ (a' := ?_) ?_ ?_
             rotate_left
             ·show Act.put _ (some 89) _ = _
              simp only [Act.put, sA, sB, sC, i64_w, i32_w]
              rfl
             refine ro 11 (some 90) (bT 14 12) HT_ (fun K hK => ?_)
             refine gs Try.func43 #[.agg #[.int .i64 a1_0, .int .i64 a1_1, .int .i64 a1_2], .agg #[.int .i64 t267, .int .i64 t268, .int .i64 t269, .int .i64 t270, .int .i64 t271, .int .i64 t272]] ?_
             with_reducible refine (spec_l06Reduce.calls _ _ _ _ _ _ _ _ _ _ _ _ _ _ _ _ A52.out).mono ?_
             rintro e w57 ⟨rfl, hb⟩
             refine ⟨_, rfl, ?_⟩
             replace BK243 := bB BK243 hb
             replace HB := bS1 HB GE243 hb
             (try clear hb)
             (try clear hb2)
             (try clear hk)
             (try clear hi)
             refine hK.out _ _ (cb3 BK243 (cx6 HB hw265_0 hw265_1 hw265_2 hw265_3 hw265_4 hw265_5 (ex6 HB hw266_0 hw266_1 hw266_2 hw266_3 hw266_4 hw266_5))).out (fun hHeld => ?_)
             clear hK K
             refine norm_ (a' := ?_) ?_ ?_
             rotate_left
             ·show Act.put _ (some 90) _ = _
              simp only [Act.put, sA, sB, sC, i64_w, i32_w]
              rfl
             refine ro 12 (some 91) (bT 14 13) HT_ (fun K hK => ?_)
             refine gs Try.func45 #[.slice (some ad265) l2.length c2, .agg #[.int .i64 t273, .int .i64 t274, .int .i64 t275, .int .i64 t276, .int .i64 t277, .int .i64 t278]] ?_
             with_reducible refine (spec_l06Has.calls _ _ _ _ _ _ _ _ _ _ _ _ ?side1 ?side2 A53.out).mono ?_
             (case side1 => exact ks (Kd.C_below HR2.out HB.out))
             (case side2 => exact HC2.out)
             rintro e w58 ⟨rfl, hb⟩
             refine ⟨_, rfl, ?_⟩
             replace BK243 := bB BK243 hb
             replace HB := bS1 HB GE243 hb
             (try clear hb)
             (try clear hb2)
             (try clear hk)
             (try clear hi)
             refine hK.out _ _ (cb3 BK243 (cx6 HB hw265_0 hw265_1 hw265_2 hw265_3 hw265_4 hw265_5 (ex6 HB hw266_0 hw266_1 hw266_2 hw266_3 hw266_4 hw266_5))).out (fun hHeld => ?_)
             clear hK K
             refine norm_ (a' := ?_) ?_ ?_
             rotate_left
             ·show Act.put _ (some 91) _ = _
              simp only [Act.put, sA, sB, sC, i64_w, i32_w]
              rfl
             refine pu 13 (some 92) (bT 14 14) HT_ ?_
             refine done_ (done_of HT_.out (by kernel_rfl)) ?_
             focus try go_wp2
            ·go_roundg k4
             case measure => have := HJ3.out; have := HK2.out; have := HK3.out; have := HK4.out; omega
             case rel => exact ⟨(wrap64 (x9_4 + 1)), (by first | rfl | (simp; done) | (simp [*]; done)), H', ⟨by have := HJ3.out; have := HK2.out; have := HK3.out; have := HK4.out; omega⟩, ⟨bkp BK243⟩, ⟨bbw1 HB GE243⟩⟩
            ·go_ret
             exact er (bbw1 HB GE243)
         ·rw [if_neg c46] at H
          have c46b0 := decide_eq_false c46
          clear c46
          obtain rfl := Option.some.inj H
          focus go_wp2
          go_ret
          exact er (bbw1 HB GE243)
      ·focus go_wp2_with (first | ((with_reducible refine gate_callee (f := 46) rfl ?_); refine gl 64 Try.func46 #[] ?_; (with_reducible refine (spec_l06Unit.calls _ _ _ _ _ _ _ A41.out).mono ?_); rintro e w63 ⟨rfl, hb⟩; refine ⟨_, rfl, ?_⟩; replace BK243 := bB BK243 hb; replace HB := bS1 HB GE243 hb; (try clear hb)) | ((with_reducible refine gate_callee (f := 45) rfl ?_); refine gl 65 Try.func45 #[.slice A2 l2.length c2, .agg #[.int .i64 t258, .int .i64 t259, .int .i64 t260, .int .i64 t261, .int .i64 t262, .int .i64 t263]] ?_; (with_reducible refine (spec_l06Has.calls _ _ _ _ _ _ _ _ _ _ _ _ ?side1 ?side2 A42.out).mono ?_); (case side1 => exact ks (Kd.C_below HR2.out HB.out)); (case side2 => exact HC2.out); rintro e w64 ⟨rfl, hb⟩; refine ⟨_, rfl, ?_⟩; replace BK243 := bB BK243 hb; replace HB := bS1 HB GE243 hb; (try clear hb)))
       go_ret
       exact er (bbw1 HB GE243)
      all_goals
       refine pu 0 (some 25) (bT 38 1) HT_ ?_
       refine pu 2 (some 27) (bs 38 5) HT_ ?_
       refine pu 3 (some 28) (bs 38 13) HT_ ?_
       refine pu 4 (some 29) (bs 38 29) HT_ ?_
       refine ta 1 (some 26) (bT 38 5) HT_ HW_ hHeld ?_
       refine ta 5 (some 30) (bT 38 6) HT_ HW_ hHeld ?_
       refine ro 6 (some 31) (bT 38 7) HT_ (fun K hK => ?_)
       refine gs Try.func42 #[.int .i64 a0, .agg #[.int .i64 a1_0, .int .i64 a1_1, .int .i64 a1_2], .agg #[.int .i64 ((rd_T44 l2 x7_2).f0.f0), .int .i64 ((rd_T44 l2 x7_2).f0.f1), .int .i64 ((rd_T44 l2 x7_2).f0.f2), .int .i64 ((rd_T44 l2 x7_2).f0.f3), .int .i64 ((rd_T44 l2 x7_2).f1.f0), .int .i64 ((rd_T44 l2 x7_2).f1.f1)]] ?_
       with_reducible refine (spec_IsSuitable.calls _ _ _ _ _ _ _ _ _ _ _ _ _ A15.out).mono ?_
       rintro e w20 ⟨rfl, hb⟩
       refine ⟨_, rfl, ?_⟩
       replace BK243 := bB BK243 hb
       replace HB := bS1 HB GE243 hb
       (try clear hb)
       (try clear hb2)
       (try clear hk)
       (try clear hi)
      refine hK.out _ _ (cb3 BK243 (cx6 HB hw245_0 hw245_1 hw245_2 hw245_3 hw245_4 hw245_5 (cx6 HB hw247_0 hw247_1 hw247_2 hw247_3 hw247_4 hw247_5 (ex6 HB hw254_0 hw254_1 hw254_2 hw254_3 hw254_4 hw254_5)))).out (fun hHeld => ?_)
      rotate_left
      refine hK.out _ _ (cb3 BK243 (cx6 HB hw245_0 hw245_1 hw245_2 hw245_3 hw245_4 hw245_5 (cx6 HB hw247_0 hw247_1 hw247_2 hw247_3 hw247_4 hw247_5 (cx6 HB hw254_0 hw254_1 hw254_2 hw254_3 hw254_4 hw254_5 (cx6 HB hw255_0 hw255_1 hw255_2 hw255_3 hw255_4 hw255_5 (ex6 HB hw256_0 hw256_1 hw256_2 hw256_3 hw256_4 hw256_5)))))).out (fun hHeld => ?_)
      rotate_left
      refine hK.out _ _ (cb3 BK243 (cx6 HB hw245_0 hw245_1 hw245_2 hw245_3 hw245_4 hw245_5 (cx6 HB hw247_0 hw247_1 hw247_2 hw247_3 hw247_4 hw247_5 (cx6 HB hw254_0 hw254_1 hw254_2 hw254_3 hw254_4 hw254_5 (cx6 HB hw255_0 hw255_1 hw255_2 hw255_3 hw255_4 hw255_5 (ex6 HB hw256_0 hw256_1 hw256_2 hw256_3 hw256_4 hw256_5)))))).out (fun hHeld => ?_)
      rotate_left
      refine hK.out _ _ (cb3 BK243 (cx6 HB hw245_0 hw245_1 hw245_2 hw245_3 hw245_4 hw245_5 (cx6 HB hw247_0 hw247_1 hw247_2 hw247_3 hw247_4 hw247_5 (ex6 HB hw254_0 hw254_1 hw254_2 hw254_3 hw254_4 hw254_5)))).out (fun hHeld => ?_)
      rotate_left
      ·refine hK.out _ _ (cb3 BK243 (ex6 HB hw245_0 hw245_1 hw245_2 hw245_3 hw245_4 hw245_5)).out (fun hHeld => ?_)
       clear hK K
       refine norm_ (a' := ?_) ?_ ?_
       rotate_left
       ·show Act.put _ (some 31) _ = _
        simp only [Act.put, sA, sB, sC, i64_w, i32_w]
        rfl
       refine pu 7 (some 32) (bT 38 8) HT_ ?_
       refine pu 8 (some 33) (bT 38 9) HT_ ?_
       refine pf 9 (some 34) (bT 38 10) HT_ ?_
       refine pf 10 (some 35) (bT 38 11) HT_ ?_
       refine pf 11 (some 36) (bT 38 12) HT_ ?_
       refine pf 12 (some 37) (bT 38 13) HT_ ?_
       refine pf 13 (some 38) (bT 38 14) HT_ ?_
       refine pf 14 (some 39) (bT 38 15) HT_ ?_
       refine pf 15 (some 40) (bT 38 16) HT_ ?_
       refine pf 16 (some 41) (bT 38 17) HT_ ?_
       refine pf 17 (some 42) (bT 38 18) HT_ ?_
       refine pf 18 (some 43) (bT 38 19) HT_ ?_
       refine pf 19 (some 44) (bT 38 20) HT_ ?_
       refine pu 20 (some 45) (bT 38 21) HT_ ?_
       refine pu 21 (some 46) (bT 38 22) HT_ ?_
       refine pf 22 (some 47) (bT 38 23) HT_ ?_
       refine pf 23 (some 48) (bT 38 24) HT_ ?_
       refine pf 24 (some 49) (bT 38 25) HT_ ?_
       refine pf 25 (some 50) (bT 38 26) HT_ ?_
       refine pf 26 (some 51) (bT 38 27) HT_ ?_
       refine pf 27 (some 52) (bT 38 28) HT_ ?_
       refine pf 28 (some 53) (bT 38 29) HT_ ?_
       refine pf 29 (some 54) (bT 38 30) HT_ ?_
       refine pf 30 (some 55) (bT 38 31) HT_ ?_
       refine pf 31 (some 56) (bT 38 32) HT_ ?_
       refine pf 32 (some 57) (bT 38 33) HT_ ?_
       refine pf 33 (some 58) (bT 38 34) HT_ ?_
       refine pf 34 (some 59) (bT 38 35) HT_ ?_
       refine pf 35 (some 60) (bT 38 36) HT_ ?_
       refine pf 36 (some 61) (bT 38 37) HT_ ?_
       refine pu 37 (some 62) (bT 38 38) HT_ ?_
       refine done_ (done_of HT_.out (by kernel_rfl)) ?_
       focus try go_wp2
       go_ret
       exact er (bbw1 HB GE243)
      all_goals
       clear hK K
       refine norm_ (a' := ?_) ?_ ?_
       rotate_left
       ·show Act.put _ (some 31) _ = _
        simp only [Act.put, sA, sB, sC, i64_w, i32_w]
        rfl
       refine pu 7 (some 32) (bT 38 8) HT_ ?_
       refine pu 8 (some 33) (bT 38 9) HT_ ?_
       refine pu 10 (some 35) (bs 38 1535) HT_ ?_
       refine pu 11 (some 36) (bs 38 3583) HT_ ?_
       refine pu 12 (some 37) (bs 38 7679) HT_ ?_
       refine pu 15 (some 40) (bs 38 40447) HT_ ?_
       refine pu 16 (some 41) (bs 38 105983) HT_ ?_
       refine pu 17 (some 42) (bs 38 237055) HT_ ?_
       refine ta 9 (some 34) (bs 38 237567) HT_ HW_ hHeld ?_
       refine ta 13 (some 38) (bs 38 245759) HT_ HW_ hHeld ?_
       refine ta 18 (some 43) (bs 38 507903) HT_ HW_ hHeld ?_
       refine ro 14 (some 39) (bT 38 19) HT_ (fun K hK => ?_)
       refine gs Try.func43 #[.agg #[.int .i64 a1_0, .int .i64 a1_1, .int .i64 a1_2], .agg #[.int .i64 ((rd_T44 l2 x7_2).f0.f0), .int .i64 ((rd_T44 l2 x7_2).f0.f1), .int .i64 ((rd_T44 l2 x7_2).f0.f2), .int .i64 ((rd_T44 l2 x7_2).f0.f3), .int .i64 ((rd_T44 l2 x7_2).f1.f0), .int .i64 ((rd_T44 l2 x7_2).f1.f1)]] ?_
       with_reducible refine (spec_l06Reduce.calls _ _ _ _ _ _ _ _ _ _ _ _ _ _ _ _ A17.out).mono ?_
       rintro e w21 ⟨rfl, hb⟩
       refine ⟨_, rfl, ?_⟩
       replace BK243 := bB BK243 hb
       replace HB := bS1 HB GE243 hb
       (try clear hb)
       (try clear hb2)
       (try clear hk)
       (try clear hi)
      refine hK.out _ _ (cb3 BK243 (cx6 HB hw245_0 hw245_1 hw245_2 hw245_3 hw245_4 hw245_5 (cx6 HB hw247_0 hw247_1 hw247_2 hw247_3 hw247_4 hw247_5 (ex6 HB hw254_0 hw254_1 hw254_2 hw254_3 hw254_4 hw254_5)))).out (fun hHeld => ?_)
      rotate_left
      refine hK.out _ _ (cb3 BK243 (cx6 HB hw245_0 hw245_1 hw245_2 hw245_3 hw245_4 hw245_5 (cx6 HB hw247_0 hw247_1 hw247_2 hw247_3 hw247_4 hw247_5 (cx6 HB hw254_0 hw254_1 hw254_2 hw254_3 hw254_4 hw254_5 (cx6 HB hw255_0 hw255_1 hw255_2 hw255_3 hw255_4 hw255_5 (ex6 HB hw256_0 hw256_1 hw256_2 hw256_3 hw256_4 hw256_5)))))).out (fun hHeld => ?_)
      rotate_left
      refine hK.out _ _ (cb3 BK243 (cx6 HB hw245_0 hw245_1 hw245_2 hw245_3 hw245_4 hw245_5 (cx6 HB hw247_0 hw247_1 hw247_2 hw247_3 hw247_4 hw247_5 (cx6 HB hw254_0 hw254_1 hw254_2 hw254_3 hw254_4 hw254_5 (cx6 HB hw255_0 hw255_1 hw255_2 hw255_3 hw255_4 hw255_5 (ex6 HB hw256_0 hw256_1 hw256_2 hw256_3 hw256_4 hw256_5)))))).out (fun hHeld => ?_)
      rotate_left
      refine hK.out _ _ (cb3 BK243 (cx6 HB hw245_0 hw245_1 hw245_2 hw245_3 hw245_4 hw245_5 (cx6 HB hw247_0 hw247_1 hw247_2 hw247_3 hw247_4 hw247_5 (ex6 HB hw254_0 hw254_1 hw254_2 hw254_3 hw254_4 hw254_5)))).out (fun hHeld => ?_)
      rotate_left
      all_goals
       clear hK K
       refine norm_ (a' := ?_) ?_ ?_
       rotate_left
       ·show Act.put _ (some 39) _ = _
        simp only [Act.put, sA, sB, sC, i64_w, i32_w]
        rfl
       refine pu 19 (some 44) (bT 38 20) HT_ ?_
       refine pu 20 (some 45) (bT 38 21) HT_ ?_
       refine pu 21 (some 46) (bT 38 22) HT_ ?_
      ·refine pf 22 (some 47) (bT 38 23) HT_ ?_
       refine pf 23 (some 48) (bT 38 24) HT_ ?_
       refine pf 24 (some 49) (bT 38 25) HT_ ?_
       refine pf 25 (some 50) (bT 38 26) HT_ ?_
       refine pf 26 (some 51) (bT 38 27) HT_ ?_
       refine pf 27 (some 52) (bT 38 28) HT_ ?_
       refine pf 28 (some 53) (bT 38 29) HT_ ?_
       refine pf 29 (some 54) (bT 38 30) HT_ ?_
       refine pf 30 (some 55) (bT 38 31) HT_ ?_
       refine pf 31 (some 56) (bT 38 32) HT_ ?_
       refine pf 32 (some 57) (bT 38 33) HT_ ?_
       refine pf 33 (some 58) (bT 38 34) HT_ ?_
       refine pf 34 (some 59) (bT 38 35) HT_ ?_
       refine pf 35 (some 60) (bT 38 36) HT_ ?_
       refine pf 36 (some 61) (bT 38 37) HT_ ?_
       refine pu 37 (some 62) (bT 38 38) HT_ ?_
       refine done_ (done_of HT_.out (by kernel_rfl)) ?_
       focus try go_wp2
       go_ret
       exact er (bbw1 HB GE243)
      rotate_left 3
      all_goals
       refine pu 22 (some 47) (bT 38 23) HT_ ?_
       refine pu 23 (some 48) (bT 38 24) HT_ ?_
       refine pu 24 (some 49) (bT 38 25) HT_ ?_
      rotate_left 2
      ·refine pf 25 (some 50) (bT 38 26) HT_ ?_
       refine pf 26 (some 51) (bT 38 27) HT_ ?_
       refine pf 27 (some 52) (bT 38 28) HT_ ?_
       refine pf 28 (some 53) (bT 38 29) HT_ ?_
       refine pf 29 (some 54) (bT 38 30) HT_ ?_
       refine pf 30 (some 55) (bT 38 31) HT_ ?_
       refine pf 31 (some 56) (bT 38 32) HT_ ?_
       refine pf 32 (some 57) (bT 38 33) HT_ ?_
       refine pf 33 (some 58) (bT 38 34) HT_ ?_
       refine pf 34 (some 59) (bT 38 35) HT_ ?_
       refine pf 35 (some 60) (bT 38 36) HT_ ?_
       refine pu 36 (some 61) (bT 38 37) HT_ ?_
       refine pu 37 (some 62) (bT 38 38) HT_ ?_
       refine done_ (done_of HT_.out (by kernel_rfl)) ?_
       focus try go_wp2
       go_roundg k2
       case measure => have := HJ3.out; have := HK2.out; omega
       case rel => exact ⟨(wrap64 (x7_2 + 1)), (by first | rfl | (simp; done) | (simp [*]; done)), H', ⟨by have := HJ3.out; have := HK2.out; omega⟩, ⟨bkp BK243⟩, ⟨bbw1 HB GE243⟩⟩
      all_goals
       refine pu 25 (some 50) (bT 38 26) HT_ ?_
       refine pu 26 (some 51) (bT 38 27) HT_ ?_
       refine pu 27 (some 52) (bT 38 28) HT_ ?_
       refine pu 28 (some 53) (bT 38 29) HT_ ?_
       refine pu 30 (some 55) (bs 38 1610612735) HT_ ?_
       refine pu 31 (some 56) (bs 38 3758096383) HT_ ?_
       refine pu 32 (some 57) (bs 38 8053063679) HT_ ?_
       refine ta 29 (some 54) (bT 38 33) HT_ HW_ hHeld ?_
       refine ta 33 (some 58) (bT 38 34) HT_ HW_ hHeld ?_
       refine ro 34 (some 59) (bT 38 35) HT_ (fun K hK => ?_)
       refine goes_ Try.func44 (by kernel_rfl) rfl #[.agg #[.int .i64 ((rd_T44 l2 (ji23)).f0.f0), .int .i64 ((rd_T44 l2 (ji23)).f0.f1), .int .i64 ((rd_T44 l2 (ji23)).f0.f2), .int .i64 ((rd_T44 l2 (ji23)).f0.f3), .int .i64 ((rd_T44 l2 (ji23)).f1.f0), .int .i64 ((rd_T44 l2 (ji23)).f1.f1)], .agg #[.int .i64 ((rd_T44 l2 x7_2).f0.f0), .int .i64 ((rd_T44 l2 x7_2).f0.f1), .int .i64 ((rd_T44 l2 x7_2).f0.f2), .int .i64 ((rd_T44 l2 x7_2).f0.f3), .int .i64 ((rd_T44 l2 x7_2).f1.f0), .int .i64 ((rd_T44 l2 x7_2).f1.f1)]] (by rfl) rfl rfl (by (try simp only [List.map_toArray, List.map_cons, List.map_nil]); first | done | (simp only [hji23]; rfl) | rfl | (simp only [List.length_drop, List.length_take]; rfl)) ?_
       with_reducible refine (spec_l05Less.calls _ _ _ _ _ _ _ _ _ _ _ _ _ _ _ A26.out).mono ?_
       rintro e w31 ⟨rfl, hb⟩
       refine ⟨_, rfl, ?_⟩
       replace BK243 := bB BK243 hb
       replace HB := bS1 HB GE243 hb
       (try clear hb)
       (try clear hb2)
       (try clear hk)
       (try clear hi)
       refine hK.out _ _ (cb3 BK243 (cx6 HB hw245_0 hw245_1 hw245_2 hw245_3 hw245_4 hw245_5 (cx6 HB hw247_0 hw247_1 hw247_2 hw247_3 hw247_4 hw247_5 (cx6 HB hw254_0 hw254_1 hw254_2 hw254_3 hw254_4 hw254_5 (cx6 HB hw255_0 hw255_1 hw255_2 hw255_3 hw255_4 hw255_5 (ex6 HB hw256_0 hw256_1 hw256_2 hw256_3 hw256_4 hw256_5)))))).out (fun hHeld => ?_)
       clear hK K
       refine norm_ (a' := ?_) ?_ ?_
       rotate_left
       ·show Act.put _ (some 59) _ = _
        simp only [Act.put, sA, sB, sC, i64_w, i32_w]
        rfl
       refine pu 35 (some 60) (bT 38 36) HT_ ?_
       refine pu 36 (some 61) (bT 38 37) HT_ ?_
       refine pu 37 (some 62) (bT 38 38) HT_ ?_
       refine done_ (done_of HT_.out (by kernel_rfl)) ?_
       focus try go_wp2
      ·go_roundg k2
       case measure => have := HJ3.out; have := HK2.out; omega
       case rel => exact ⟨(wrap64 (x7_2 + 1)), (by first | rfl | (simp; done) | (simp [*]; done)), H', ⟨by have := HJ3.out; have := HK2.out; omega⟩, ⟨bkp BK243⟩, ⟨bbw1 HB GE243⟩⟩
      ·go_ret
       exact ⟨by first | rfl | (simp [errW_none, errW_some] <;> rfl) | (simp only [← hji23]; first | rfl | (simp [errW_none, errW_some] <;> rfl)) | (simp [*, errW_none, errW_some] <;> rfl), bbw1 HB GE243⟩

end Go.Proofs.Ytfmjboloeabjmaa.PA
