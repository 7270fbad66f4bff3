/- Walks written by program: each Go function that the law reaches comes to the plain function beside it. -/
import Derived.Test.YtilbokbfcmeleaaPAx0
import Derived.Test.YtilbokbfcmeleaaPAx4
import Derived.Test.YtilbokbfcmeleaaPAx6
import Derived.Test.YtilbokbfcmeleaaPAx8
namespace Go.Proofs.Ytilbokbfcmeleaa.PA
open Go.RowKit Go.Proofs.YtilbokbfcmeleaaW.PrintWords Go.Proofs.YtilbokbfcmeleaaW.PrintLast Go.Proofs.YtilbokbfcmeleaaW.PrintMore
attribute [local go_sem] max2_int min2_int max_two min_two max_three min_three max_four min_four   -- for this text's walks alone
set_option linter.unusedVariables false
set_option linter.unusedSimpArgs false

attribute [local go_sem high] eqA48
/-! ### spec_IsGroup: function 19 -/
mutual
def spec_IsGroup.j0 : Nat → Int → List (S48) → Bool → Int → Int → Int → Option (Bool)
 | 0, _, _, _, _, _, _ => none
 | k + 1, x0, x2, x18, x294000, x294001, x294002 => if x18 = true then (some false) else (spec_IsGroup.l0 k x0 x2 0 x294000 x294001 x294002)
def spec_IsGroup.l0 : Nat → Int → List (S48) → Int → Int → Int → Int → Option (Bool)
 | 0, _, _, _, _, _, _ => none
 | k + 1, x0, x2, x7, x294000, x294001, x294002 => if x7 < (x2.length : Int) then (if 0 ≤ x7 then ((spec_IsSuitable.f k x0 x294000 x294001 x294002 ((rd_T48 x2 x7).f0.f0) ((rd_T48 x2 x7).f0.f1) ((rd_T48 x2 x7).f0.f2) ((rd_T48 x2 x7).f0.f3) ((rd_T48 x2 x7).f1.f0) ((rd_T48 x2 x7).f1.f1)).bind fun t296 => (if t296 = true then ((spec_l06Reduce.f x294000 x294001 x294002 ((rd_T48 x2 x7).f0.f0) ((rd_T48 x2 x7).f0.f1) ((rd_T48 x2 x7).f0.f2) ((rd_T48 x2 x7).f0.f3) ((rd_T48 x2 x7).f1.f0) ((rd_T48 x2 x7).f1.f1)).bind fun bt298 => (if ((!(bt298.1 == ((rd_T48 x2 x7).f0.f0)) || (!(bt298.2.1 == ((rd_T48 x2 x7).f0.f1)) || (!(bt298.2.2.1 == ((rd_T48 x2 x7).f0.f2)) || (!(bt298.2.2.2.1 == ((rd_T48 x2 x7).f0.f3)))))) || ((!(bt298.2.2.2.2.1 == ((rd_T48 x2 x7).f1.f0)) || (!(bt298.2.2.2.2.2 == ((rd_T48 x2 x7).f1.f1)))))) = true then (some false) else (if x7 > 0 then (if 0 ≤ (wrap64 (x7 - 1)) then (if (wrap64 (x7 - 1)) < (x2.length : Int) then ((spec_l05Less.f k ((rd_T48 x2 (wrap64 (x7 - 1))).f0.f0) ((rd_T48 x2 (wrap64 (x7 - 1))).f0.f1) ((rd_T48 x2 (wrap64 (x7 - 1))).f0.f2) ((rd_T48 x2 (wrap64 (x7 - 1))).f0.f3) ((rd_T48 x2 (wrap64 (x7 - 1))).f1.f0) ((rd_T48 x2 (wrap64 (x7 - 1))).f1.f1) ((rd_T48 x2 x7).f0.f0) ((rd_T48 x2 x7).f0.f1) ((rd_T48 x2 x7).f0.f2) ((rd_T48 x2 x7).f0.f3) ((rd_T48 x2 x7).f1.f0) ((rd_T48 x2 x7).f1.f1)).bind fun t307 => (if t307 = true then (spec_IsGroup.l0 k x0 x2 (wrap64 (x7 + 1)) x294000 x294001 x294002) else (some false))) else (none)) else (none)) else (spec_IsGroup.l0 k x0 x2 (wrap64 (x7 + 1)) x294000 x294001 x294002)))) else (some false))) else (none)) else ((spec_l06Unit.f).bind fun bt308 => ((spec_l06Has.f k x2 bt308.1 bt308.2.1 bt308.2.2.1 bt308.2.2.2.1 bt308.2.2.2.2.1 bt308.2.2.2.2.2).bind fun t314 => (if t314 = true then (spec_IsGroup.l1 k x2 0 x294000 x294001 x294002) else (some false))))
def spec_IsGroup.l1 : Nat → List (S48) → Int → Int → Int → Int → Option (Bool)
 | 0, _, _, _, _, _ => none
 | k + 1, x2, x8, x294000, x294001, x294002 => if x8 < (x2.length : Int) then (spec_IsGroup.l2 k x2 x8 0 x294000 x294001 x294002) else (some true)
def spec_IsGroup.l2 : Nat → List (S48) → Int → Int → Int → Int → Int → Option (Bool)
 | 0, _, _, _, _, _, _ => none
 | k + 1, x2, x8, x9, x294000, x294001, x294002 => if x9 < (x2.length : Int) then (if 0 ≤ x8 then (if x8 < (x2.length : Int) then (if 0 ≤ x9 then ((spec_l05Compose.f ((rd_T48 x2 x8).f0.f0) ((rd_T48 x2 x8).f0.f1) ((rd_T48 x2 x8).f0.f2) ((rd_T48 x2 x8).f0.f3) ((rd_T48 x2 x8).f1.f0) ((rd_T48 x2 x8).f1.f1) ((rd_T48 x2 x9).f0.f0) ((rd_T48 x2 x9).f0.f1) ((rd_T48 x2 x9).f0.f2) ((rd_T48 x2 x9).f0.f3) ((rd_T48 x2 x9).f1.f0) ((rd_T48 x2 x9).f1.f1)).bind fun bt317 => ((spec_l06Reduce.f x294000 x294001 x294002 bt317.1 bt317.2.1 bt317.2.2.1 bt317.2.2.2.1 bt317.2.2.2.2.1 bt317.2.2.2.2.2).bind fun bt323 => ((spec_l06Has.f k x2 bt323.1 bt323.2.1 bt323.2.2.1 bt323.2.2.2.1 bt323.2.2.2.2.1 bt323.2.2.2.2.2).bind fun t329 => (if t329 = true then (spec_IsGroup.l2 k x2 x8 (wrap64 (x9 + 1)) x294000 x294001 x294002) else (some false))))) else (none)) else (none)) else (none)) else (spec_IsGroup.l1 k x2 (wrap64 (x8 + 1)) x294000 x294001 x294002)
end
def spec_IsGroup.f (k : Nat) (a0 : Int) (a1_0 : Int) (a1_1 : Int) (a1_2 : Int) (l2 : List (S48)) : Option (Bool) := (spec_l04Code.f a0 a1_0 a1_1 a1_2).bind fun t294 => (if t294 = 0 then (spec_IsGroup.j0 k a0 l2 (decide ((l2.length : Int) > 768)) a1_0 a1_1 a1_2) else (spec_IsGroup.j0 k a0 l2 true a1_0 a1_1 a1_2))
def spec_IsGroup.T6 : Bool × List (List Nat × List Nat) := (true, [([], []), ([], []), ([], []), ([], []), ([2, 3], [2, 3]), ([4], [4]), ([0, 1, 5], [0, 1, 5]), ([6], [6]), ([7, 6], [7]), ([8], [8]), ([8], [8]), ([8], [8]), ([10, 11, 8], [8, 10, 11]), ([12, 8], [8, 12]), ([9, 13, 8, 8], [8, 9, 13]), ([8], [8]), ([8], [8]), ([15, 16, 8], [8, 15, 16]), ([17, 8], [8, 17]), ([14, 18, 8], [8, 14, 18]), ([8, 19], [8, 19]), ([20, 14], [20]), ([21], [21]), ([22, 21], [21, 22]), ([23, 21, 21], [21, 23]), ([24], [24]), ([24], [24]), ([26, 24], [24, 26]), ([25, 27, 24], [24, 25, 27]), ([28, 24], [24, 28]), ([24], [24]), ([24], [24]), ([30, 31, 24], [24, 30, 31]), ([32, 24], [24, 32]), ([29, 33, 24, 24], [24, 29, 33]), ([34, 24], [24, 34]), ([24, 35, 21], [21, 24, 35]), ([21, 36], [21, 36])])
def spec_IsGroup.B6 : List Nat := [0, 0, 0, 0, 12, 28, 63, 127, 255, 511, 511, 511, 3583, 7679, 16383, 511, 511, 98815, 229887, 524287, 1048575, 2097151, 4194303, 8388607, 16777215, 33554431, 33554431, 100663295, 268435455, 536870911, 33554431, 33554431, 3254779903, 7549747199, 17179869183, 34359738367, 68719476735, 137438953471]
theorem spec_IsGroup.tab6 : rtab .any (opsOf Try.f19 6) = spec_IsGroup.T6 := by kernel_rfl
theorem spec_IsGroup.bits6 : waitsOk spec_IsGroup.T6.2 spec_IsGroup.B6 = true := by kernel_rfl
def spec_IsGroup.T16 : Bool × List (List Nat × List Nat) := (true, [([], []), ([], []), ([], []), ([], []), ([2, 3], [2, 3]), ([4], [4]), ([], []), ([], []), ([6, 7], [6, 7]), ([8], [8]), ([5, 9], [5, 9]), ([1, 10, 10], [1, 10]), ([0, 11, 11], [0, 11]), ([12], [12])])
def spec_IsGroup.B16 : List Nat := [0, 0, 0, 0, 12, 28, 0, 0, 192, 448, 1020, 2046, 4095, 8191]
theorem spec_IsGroup.tab16 : rtab .any (opsOf Try.f19 16) = spec_IsGroup.T16 := by kernel_rfl
theorem spec_IsGroup.bits16 : waitsOk spec_IsGroup.T16.2 spec_IsGroup.B16 = true := by kernel_rfl
set_option maxHeartbeats 8000000 in
set_option maxRecDepth 100000 in
theorem spec_IsGroup.calls (k : Nat) (a0 : Int) (a1_0 : Int) (a1_1 : Int) (a1_2 : Int) (A2 : Option Addr) (c2 : Nat) (l2 : List (S48)) (r : Bool) (w : World) (hr2 : Kd.C k48 w A2 l2.length l2) (hc2 : l2.length ≤ c2) (h : spec_IsGroup.f k a0 a1_0 a1_1 a1_2 l2 = some r) :
  Calls Try.prog 19 #[.int .i64 a0, .agg #[.int .i64 a1_0, .int .i64 a1_1, .int .i64 a1_2], .slice A2 l2.length c2] w fun e w' => e = .returned (.bool r) ∧ Below w.heap.size w w' := by
 have hu29 := Try.underlying29
 have hu48 := Try.underlying48
 have HR2 := Aside0.mk hr2
 have HC2 := Aside0.mk hc2
 clear hr2 hc2
 have HB := asd (Below.refl w.heap.size w)
 have H : ((spec_l04Code.f a0 a1_0 a1_1 a1_2).bind fun t294 => (if t294 = 0 then (spec_IsGroup.j0 k a0 l2 (decide ((l2.length : Int) > 768)) a1_0 a1_1 a1_2) else (spec_IsGroup.j0 k a0 l2 true a1_0 a1_1 a1_2))) = some r := h
 clear h
 have HC4 := Aside0.mk H
 clear H
 go_enter Try.func19, Try.ntmps19
 go_upto_region 1 with (first | ((with_reducible refine gd 4 rfl ?_); (try (refine gate_guard (by rfl) ?_; dsimp only)); refine bx #[.int .i64 a1_0, .int .i64 a1_1, .int .i64 a1_2] 29 ?_; intro gb293 hg w5 BK293 hb; have GE293 := ngw0 hg HB; replace HB := bS0 HB hb; clear hb hg))
 (try simp only [Act.put, sA, sB, sC])
 go_cut [18] (fun v18 wc => ∃ (kq : Nat) (x18_3 : Bool), v18 = .bool x18_3 ∧ Aside0 (spec_IsGroup.j0 kq a0 l2 x18_3 a1_0 a1_1 a1_2 = some r) ∧ Aside0 (kq ≤ k) ∧ Aside0 (wc.heap[gb293]? = some (.cells #[.int .i64 a1_0, .int .i64 a1_1, .int .i64 a1_2] 29 (0, 0))) ∧ Aside0 (Below w.heap.size w wc))
 case first =>
  have H := HC4.out
  clear HC4
  obtain ⟨t294, A6, H⟩ := ob H
  try dsimp only at H
  by_cases c7 : t294 = 0
  ·rw [if_pos c7] at H
   have c7b0 : (t294 == 0) = true := beq_iff_eq.mpr c7
   have c7b1 : (t294 != 0) = false := bne_eq_false_iff_eq.mpr c7
   clear c7
   (first | rw [c7b0] | (simp only [i64_w, i32_w]; rw [c7b0]) | skip)
   have H' := Aside0.mk H
   clear H
   obtain ⟨hcz8_0, hcz8_1, hcz8_2, hfz8_0, hfz8_1, hfz8_2⟩ := bz3 BK293
   go_wp2_with (first | ((with_reducible refine gate_callee (f := 41) rfl ?_); refine gl 12 Try.func41 #[.int .i64 a0, .agg #[.int .i64 a1_0, .int .i64 a1_1, .int .i64 a1_2]] ?_; (with_reducible refine (spec_l04Code.calls _ _ _ _ _ _ A6.out).mono ?_); rintro e w9 ⟨rfl, hb⟩; refine ⟨_, rfl, ?_⟩; replace BK293 := bB BK293 hb; replace HB := bS1 HB GE293 hb; (try clear hb)))
   go_meet
   case rel => exact ⟨_, (decide ((l2.length : Int) > 768)), (by first | rfl | (simp; done) | (simp [*]; done)), H', ⟨by first | omega | exact Nat.le_refl _⟩, ⟨bkp BK293⟩, ⟨bbw1 HB GE293⟩⟩
  ·rw [if_neg c7] at H
   have c7b0 : (t294 == 0) = false := beq_eq_false_iff_ne.mpr c7
   have c7b1 : (t294 != 0) = true := bne_iff_ne.mpr c7
   (first | rw [c7b0] | (simp only [i64_w, i32_w]; rw [c7b0]) | skip)
   have H' := Aside0.mk H
   clear H
   obtain ⟨hcz10_0, hcz10_1, hcz10_2, hfz10_0, hfz10_1, hfz10_2⟩ := bz3 BK293
   go_wp2_with (first | ((with_reducible refine gate_callee (f := 41) rfl ?_); refine gl 12 Try.func41 #[.int .i64 a0, .agg #[.int .i64 a1_0, .int .i64 a1_1, .int .i64 a1_2]] ?_; (with_reducible refine (spec_l04Code.calls _ _ _ _ _ _ A6.out).mono ?_); rintro e w11 ⟨rfl, hb⟩; refine ⟨_, rfl, ?_⟩; replace BK293 := bB BK293 hb; replace HB := bS1 HB GE293 hb; (try clear hb)))
   go_meet
   case rel => exact ⟨_, (true), (by first | rfl | (simp; done) | (simp [*]; done)), H', ⟨by first | omega | exact Nat.le_refl _⟩, ⟨bkp BK293⟩, ⟨bbw1 HB GE293⟩⟩
 case rest =>
  clear HC4
  try clear c1
  try clear c2
  try clear p2
  try clear c4
  try clear c7
  try clear c7b0
  try clear c7b1
  try clear hcz10_0
  try clear hcz10_1
  try clear hcz10_2
  try clear hcz8_0
  try clear hcz8_1
  try clear hcz8_2
  try clear hfz10_0
  try clear hfz10_1
  try clear hfz10_2
  try clear hfz8_0
  try clear hfz8_1
  try clear hfz8_2
  obtain ⟨kq, x18_3, rfl, HA, HJ3, BK293, HB⟩ := hcut
  cases kq with
  | zero => exact absurd HA.out (by simp [spec_IsGroup.j0])
  | succ kj3 =>
   have H := HA.out
   clear HA
   simp only [spec_IsGroup.j0] at H
   by_cases c12 : x18_3 = true
   ·subst c12
    replace H := ifT H
    obtain rfl := Option.some.inj H
    go_wp2
    go_ret
    exact er (bbw1 HB GE293)
   ·replace c12 := Bool.eq_false_iff.mpr c12
    subst c12
    replace H := ifF H
    have H' := Aside0.mk H
    clear H
    go_wp2
    go_loopg [7] kj3 (fun kq v7 w' => ∃ (x7_2 : Int), v7 = .int .i64 x7_2 ∧ Aside0 (spec_IsGroup.l0 kq a0 l2 x7_2 a1_0 a1_1 a1_2 = some r) ∧ Aside0 (kq ≤ kj3) ∧ Aside0 (w'.heap[gb293]? = some (.cells #[.int .i64 a1_0, .int .i64 a1_1, .int .i64 a1_2] 29 (0, 0))) ∧ Aside0 (Below w.heap.size w w'))
    case atStart => exact ⟨(0), (by first | rfl | (simp; done) | (simp [*]; done)), H', ⟨Nat.le_refl _⟩, ⟨bkp BK293⟩, ⟨bbw1 HB GE293⟩⟩
    case round =>
     clear H'
     try clear c1
     try clear c2
     try clear p2
     try clear c4
     try clear c7
     try clear c7b0
     try clear c7b1
     try clear c12
     try clear hcz10_0
     try clear hcz10_1
     try clear hcz10_2
     try clear hcz8_0
     try clear hcz8_1
     try clear hcz8_2
     try clear hfz10_0
     try clear hfz10_1
     try clear hfz10_2
     try clear hfz8_0
     try clear hfz8_1
     try clear hfz8_2
     try clear p2
     obtain ⟨x7_2, rfl, HA, HK2, BK293, HB⟩ := hrel
     cases gk with
     | zero => exact absurd HA.out (by simp [spec_IsGroup.l0])
     | succ k2 =>
      have H := HA.out
      clear HA
      simp only [spec_IsGroup.l0] at H
      by_cases c13 : x7_2 < (l2.length : Int)
      ·rw [if_pos c13] at H
       have c13b0 := decide_eq_true c13
       clear c13
       by_cases c14 : 0 ≤ x7_2
       ·rw [if_pos c14] at H
        have c14b0 := decide_eq_true c14
        clear c14
        obtain ⟨t296, A15, H⟩ := ob H
        try dsimp only at H
        by_cases c16 : t296 = true
        ·subst c16
         replace H := ifT H
         obtain ⟨⟨t298, t299, t300, t301, t302, t303⟩, A17, H⟩ := ob H
         try dsimp only at H
         by_cases c18 : ((!(t298 == ((rd_T48 l2 x7_2).f0.f0)) || (!(t299 == ((rd_T48 l2 x7_2).f0.f1)) || (!(t300 == ((rd_T48 l2 x7_2).f0.f2)) || (!(t301 == ((rd_T48 l2 x7_2).f0.f3)))))) || ((!(t302 == ((rd_T48 l2 x7_2).f1.f0)) || (!(t303 == ((rd_T48 l2 x7_2).f1.f1)))))) = true
         ·rw [if_pos c18] at H
          have c18b0 := c18
          clear c18
          obtain rfl := Option.some.inj H
          try go_wp2
          replace BK293 := asd (blk_drew BK293.out)
          replace HB := asd (below_drew1 HB.out)
          obtain ⟨p295, q295, ad295, e295, hw295_0, hw295_1, hw295_2, hw295_3, hw295_4, hw295_5, hx295_0, hx295_1, hx295_2, hx295_3, hx295_4, hx295_5⟩ := at_T48w HR2.out HB x7_2
          cases e295
          obtain ⟨p297, q297, ad297, e297, hw297_0, hw297_1, hw297_2, hw297_3, hw297_4, hw297_5, hx297_0, hx297_1, hx297_2, hx297_3, hx297_4, hx297_5⟩ := at_T48w HR2.out HB x7_2
          obtain rfl : ad295 = ad297 := (by injection e297)
          obtain ⟨p304, q304, ad304, e304, hw304_0, hw304_1, hw304_2, hw304_3, hw304_4, hw304_5, hx304_0, hx304_1, hx304_2, hx304_3, hx304_4, hx304_5⟩ := at_T48w HR2.out HB x7_2
          obtain rfl : ad295 = ad304 := (by injection e304)
          refine sh 38 (cb3 BK293 (cx6 HB hw295_0 hw295_1 hw295_2 hw295_3 hw295_4 hw295_5 (cx6 HB hw297_0 hw297_1 hw297_2 hw297_3 hw297_4 hw297_5 (ex6 HB hw304_0 hw304_1 hw304_2 hw304_3 hw304_4 hw304_5)))) (fun hHeld => ?_); refine with_tabW spec_IsGroup.tab6 spec_IsGroup.bits6 (fun HT_ HW_ => ?_)
          generalize wr.drew = w19 at BK293 HB hx295_0 hx295_1 hx295_2 hx295_3 hx295_4 hx295_5 hx297_0 hx297_1 hx297_2 hx297_3 hx297_4 hx297_5 hx304_0 hx304_1 hx304_2 hx304_3 hx304_4 hx304_5 hHeld ⊢
          refine pu 0 (some 25) (bT 38 1) HT_ ?_
          refine pu 2 (some 27) (bs 38 5) HT_ ?_
          refine pu 3 (some 28) (bs 38 13) HT_ ?_
          refine pu 4 (some 29) (bs 38 29) HT_ ?_
          refine ta 1 (some 26) (bT 38 5) HT_ HW_ hHeld ?_
          refine ta 5 (some 30) (bT 38 6) HT_ HW_ hHeld ?_
          refine ro 6 (some 31) (bT 38 7) HT_ (fun K hK => ?_)
          refine gs Try.func42 #[.int .i64 a0, .agg #[.int .i64 a1_0, .int .i64 a1_1, .int .i64 a1_2], .agg #[.int .i64 ((rd_T48 l2 x7_2).f0.f0), .int .i64 ((rd_T48 l2 x7_2).f0.f1), .int .i64 ((rd_T48 l2 x7_2).f0.f2), .int .i64 ((rd_T48 l2 x7_2).f0.f3), .int .i64 ((rd_T48 l2 x7_2).f1.f0), .int .i64 ((rd_T48 l2 x7_2).f1.f1)]] ?_
          with_reducible refine (spec_IsSuitable.calls _ _ _ _ _ _ _ _ _ _ _ _ _ A15.out).mono ?_
          rintro e w20 ⟨rfl, hb⟩
          refine ⟨_, rfl, ?_⟩
          replace BK293 := bB BK293 hb
          replace HB := bS1 HB GE293 hb
          (try clear hb)
          (try clear hb2)
          (try clear hk)
          (try clear hi)
          refine hK.out _ _ (cb3 BK293 (cx6 HB hw295_0 hw295_1 hw295_2 hw295_3 hw295_4 hw295_5 (cx6 HB hw297_0 hw297_1 hw297_2 hw297_3 hw297_4 hw297_5 (ex6 HB hw304_0 hw304_1 hw304_2 hw304_3 hw304_4 hw304_5)))).out (fun hHeld => ?_)
          clear hK K
          refine norm_ (a' := ?_) ?_ ?_
          rotate_left
          ·show Act.put _ (some 31) _ = _
           simp only [Act.put, sA, sB, sC, i64_w, i32_w]
           rfl
          refine pu 7 (some 32) (bT 38 8) HT_ ?_
          refine pu 8 (some 33) (bT 38 9) HT_ ?_
          refine pu 10 (some 35) (bs 38 1535) HT_ ?_
          refine pu 11 (some 36) (bs 38 3583) HT_ ?_
          refine pu 12 (some 37) (bs 38 7679) HT_ ?_
          refine pu 15 (some 40) (bs 38 40447) HT_ ?_
          refine pu 16 (some 41) (bs 38 105983) HT_ ?_
          refine pu 17 (some 42) (bs 38 237055) HT_ ?_
          refine ta 9 (some 34) (bs 38 237567) HT_ HW_ hHeld ?_
          refine ta 13 (some 38) (bs 38 245759) HT_ HW_ hHeld ?_
          refine ta 18 (some 43) (bs 38 507903) HT_ HW_ hHeld ?_
          refine ro 14 (some 39) (bT 38 19) HT_ (fun K hK => ?_)
          refine gs Try.func43 #[.agg #[.int .i64 a1_0, .int .i64 a1_1, .int .i64 a1_2], .agg #[.int .i64 ((rd_T48 l2 x7_2).f0.f0), .int .i64 ((rd_T48 l2 x7_2).f0.f1), .int .i64 ((rd_T48 l2 x7_2).f0.f2), .int .i64 ((rd_T48 l2 x7_2).f0.f3), .int .i64 ((rd_T48 l2 x7_2).f1.f0), .int .i64 ((rd_T48 l2 x7_2).f1.f1)]] ?_
          with_reducible refine (spec_l06Reduce.calls _ _ _ _ _ _ _ _ _ _ _ _ _ _ _ _ A17.out).mono ?_
          rintro e w21 ⟨rfl, hb⟩
          refine ⟨_, rfl, ?_⟩
          replace BK293 := bB BK293 hb
          replace HB := bS1 HB GE293 hb
          (try clear hb)
          (try clear hb2)
          (try clear hk)
          (try clear hi)
          refine hK.out _ _ (cb3 BK293 (cx6 HB hw295_0 hw295_1 hw295_2 hw295_3 hw295_4 hw295_5 (cx6 HB hw297_0 hw297_1 hw297_2 hw297_3 hw297_4 hw297_5 (ex6 HB hw304_0 hw304_1 hw304_2 hw304_3 hw304_4 hw304_5)))).out (fun hHeld => ?_)
          clear hK K
          refine norm_ (a' := ?_) ?_ ?_
          rotate_left
          ·show Act.put _ (some 39) _ = _
           simp only [Act.put, sA, sB, sC, i64_w, i32_w]
           rfl
          refine pu 19 (some 44) (bT 38 20) HT_ ?_
          refine pu 20 (some 45) (bT 38 21) HT_ ?_
          refine pu 21 (some 46) (bT 38 22) HT_ ?_
          refine pf 22 (some 47) (bT 38 23) HT_ ?_
          refine pf 23 (some 48) (bT 38 24) HT_ ?_
          refine pf 24 (some 49) (bT 38 25) HT_ ?_
          refine pf 25 (some 50) (bT 38 26) HT_ ?_
          refine pf 26 (some 51) (bT 38 27) HT_ ?_
          refine pf 27 (some 52) (bT 38 28) HT_ ?_
          refine pf 28 (some 53) (bT 38 29) HT_ ?_
          refine pf 29 (some 54) (bT 38 30) HT_ ?_
          refine pf 30 (some 55) (bT 38 31) HT_ ?_
          refine pf 31 (some 56) (bT 38 32) HT_ ?_
          refine pf 32 (some 57) (bT 38 33) HT_ ?_
          refine pf 33 (some 58) (bT 38 34) HT_ ?_
          refine pf 34 (some 59) (bT 38 35) HT_ ?_
          refine pf 35 (some 60) (bT 38 36) HT_ ?_
          refine pf 36 (some 61) (bT 38 37) HT_ ?_
          refine pu 37 (some 62) (bT 38 38) HT_ ?_
          refine done_ (done_of HT_.out (by kernel_rfl)) ?_
          try go_wp2
          go_ret
          exact er (bbw1 HB GE293)
         ·rw [if_neg c18] at H
          have c18b0 : ((!(t298 == ((rd_T48 l2 x7_2).f0.f0)) || (!(t299 == ((rd_T48 l2 x7_2).f0.f1)) || (!(t300 == ((rd_T48 l2 x7_2).f0.f2)) || (!(t301 == ((rd_T48 l2 x7_2).f0.f3)))))) || ((!(t302 == ((rd_T48 l2 x7_2).f1.f0)) || (!(t303 == ((rd_T48 l2 x7_2).f1.f1)))))) = false := by simpa using c18
          clear c18
          by_cases c22 : x7_2 > 0
          ·rw [if_pos c22] at H
           have c22b0 : decide (0 < x7_2) = true := decide_eq_true c22
           clear c22
           obtain ⟨ji23, hji23⟩ : ∃ j_ : Int, (wrap64 (x7_2 - 1)) = j_ := ⟨_, rfl⟩
           replace H : (if 0 ≤ (ji23) then (if (ji23) < (l2.length : Int) then ((spec_l05Less.f k2 ((rd_T48 l2 (ji23)).f0.f0) ((rd_T48 l2 (ji23)).f0.f1) ((rd_T48 l2 (ji23)).f0.f2) ((rd_T48 l2 (ji23)).f0.f3) ((rd_T48 l2 (ji23)).f1.f0) ((rd_T48 l2 (ji23)).f1.f1) ((rd_T48 l2 x7_2).f0.f0) ((rd_T48 l2 x7_2).f0.f1) ((rd_T48 l2 x7_2).f0.f2) ((rd_T48 l2 x7_2).f0.f3) ((rd_T48 l2 x7_2).f1.f0) ((rd_T48 l2 x7_2).f1.f1)).bind fun t307 => (if t307 = true then (spec_IsGroup.l0 k2 a0 l2 (wrap64 (x7_2 + 1)) a1_0 a1_1 a1_2) else (some false))) else (none)) else (none)) = some r := by first | (rw [hji23] at H; first | done | exact H) | (simp only [hji23] at H ⊢; exact H)
           (try rw [hji23] at A15)
           (try rw [hji23] at A17)
           have hji23w : (IntKind.i64.wrap (x7_2 - 1)) = ji23 := (i64_w _).trans hji23
           by_cases c24 : 0 ≤ (ji23)
           ·rw [if_pos c24] at H
            have c24b0 := decide_eq_true c24
            clear c24
            by_cases c25 : (ji23) < (l2.length : Int)
            ·rw [if_pos c25] at H
             have c25b0 := decide_eq_true c25
             clear c25
             obtain ⟨t307, A26, H⟩ := ob H
             try dsimp only at H
             by_cases c27 : t307 = true
             ·subst c27
              replace H := ifT H
              have H' := Aside0.mk H
              clear H
              try go_wp2
              replace BK293 := asd (blk_drew BK293.out)
              replace HB := asd (below_drew1 HB.out)
              obtain ⟨p295, q295, ad295, e295, hw295_0, hw295_1, hw295_2, hw295_3, hw295_4, hw295_5, hx295_0, hx295_1, hx295_2, hx295_3, hx295_4, hx295_5⟩ := at_T48w HR2.out HB x7_2
              cases e295
              obtain ⟨p297, q297, ad297, e297, hw297_0, hw297_1, hw297_2, hw297_3, hw297_4, hw297_5, hx297_0, hx297_1, hx297_2, hx297_3, hx297_4, hx297_5⟩ := at_T48w HR2.out HB x7_2
              obtain rfl : ad295 = ad297 := (by injection e297)
              obtain ⟨p304, q304, ad304, e304, hw304_0, hw304_1, hw304_2, hw304_3, hw304_4, hw304_5, hx304_0, hx304_1, hx304_2, hx304_3, hx304_4, hx304_5⟩ := at_T48w HR2.out HB x7_2
              obtain rfl : ad295 = ad304 := (by injection e304)
              obtain ⟨p305, q305, ad305, e305, hw305_0, hw305_1, hw305_2, hw305_3, hw305_4, hw305_5, hx305_0, hx305_1, hx305_2, hx305_3, hx305_4, hx305_5⟩ := at_T48w HR2.out HB (ji23)
              obtain rfl : ad295 = ad305 := (by injection e305)
              obtain ⟨p306, q306, ad306, e306, hw306_0, hw306_1, hw306_2, hw306_3, hw306_4, hw306_5, hx306_0, hx306_1, hx306_2, hx306_3, hx306_4, hx306_5⟩ := at_T48w HR2.out HB x7_2
              obtain rfl : ad295 = ad306 := (by injection e306)
              refine sh 38 (cb3 BK293 (cx6 HB hw295_0 hw295_1 hw295_2 hw295_3 hw295_4 hw295_5 (cx6 HB hw297_0 hw297_1 hw297_2 hw297_3 hw297_4 hw297_5 (cx6 HB hw304_0 hw304_1 hw304_2 hw304_3 hw304_4 hw304_5 (cx6 HB hw305_0 hw305_1 hw305_2 hw305_3 hw305_4 hw305_5 (ex6 HB hw306_0 hw306_1 hw306_2 hw306_3 hw306_4 hw306_5)))))) (fun hHeld => ?_); refine with_tabW spec_IsGroup.tab6 spec_IsGroup.bits6 (fun HT_ HW_ => ?_)
              generalize wr.drew = w28 at BK293 HB hx295_0 hx295_1 hx295_2 hx295_3 hx295_4 hx295_5 hx297_0 hx297_1 hx297_2 hx297_3 hx297_4 hx297_5 hx304_0 hx304_1 hx304_2 hx304_3 hx304_4 hx304_5 hx305_0 hx305_1 hx305_2 hx305_3 hx305_4 hx305_5 hx306_0 hx306_1 hx306_2 hx306_3 hx306_4 hx306_5 hHeld ⊢
              refine pu 0 (some 25) (bT 38 1) HT_ ?_
              refine pu 2 (some 27) (bs 38 5) HT_ ?_
              refine pu 3 (some 28) (bs 38 13) HT_ ?_
              refine pu 4 (some 29) (bs 38 29) HT_ ?_
              refine ta 1 (some 26) (bT 38 5) HT_ HW_ hHeld ?_
              refine ta 5 (some 30) (bT 38 6) HT_ HW_ hHeld ?_
              refine ro 6 (some 31) (bT 38 7) HT_ (fun K hK => ?_)
              refine gs Try.func42 #[.int .i64 a0, .agg #[.int .i64 a1_0, .int .i64 a1_1, .int .i64 a1_2], .agg #[.int .i64 ((rd_T48 l2 x7_2).f0.f0), .int .i64 ((rd_T48 l2 x7_2).f0.f1), .int .i64 ((rd_T48 l2 x7_2).f0.f2), .int .i64 ((rd_T48 l2 x7_2).f0.f3), .int .i64 ((rd_T48 l2 x7_2).f1.f0), .int .i64 ((rd_T48 l2 x7_2).f1.f1)]] ?_
              with_reducible refine (spec_IsSuitable.calls _ _ _ _ _ _ _ _ _ _ _ _ _ A15.out).mono ?_
              rintro e w29 ⟨rfl, hb⟩
              refine ⟨_, rfl, ?_⟩
              replace BK293 := bB BK293 hb
              replace HB := bS1 HB GE293 hb
              (try clear hb)
              (try clear hb2)
              (try clear hk)
              (try clear hi)
              refine hK.out _ _ (cb3 BK293 (cx6 HB hw295_0 hw295_1 hw295_2 hw295_3 hw295_4 hw295_5 (cx6 HB hw297_0 hw297_1 hw297_2 hw297_3 hw297_4 hw297_5 (cx6 HB hw304_0 hw304_1 hw304_2 hw304_3 hw304_4 hw304_5 (cx6 HB hw305_0 hw305_1 hw305_2 hw305_3 hw305_4 hw305_5 (ex6 HB hw306_0 hw306_1 hw306_2 hw306_3 hw306_4 hw306_5)))))).out (fun hHeld => ?_)
              clear hK K
              refine norm_ (a' := ?_) ?_ ?_
              rotate_left
              ·show Act.put _ (some 31) _ = _
               simp only [Act.put, sA, sB, sC, i64_w, i32_w]
               rfl
              refine pu 7 (some 32) (bT 38 8) HT_ ?_
              refine pu 8 (some 33) (bT 38 9) HT_ ?_
              refine pu 10 (some 35) (bs 38 1535) HT_ ?_
              refine pu 11 (some 36) (bs 38 3583) HT_ ?_
              refine pu 12 (some 37) (bs 38 7679) HT_ ?_
              refine pu 15 (some 40) (bs 38 40447) HT_ ?_
              refine pu 16 (some 41) (bs 38 105983) HT_ ?_
              refine pu 17 (some 42) (bs 38 237055) HT_ ?_
              refine ta 9 (some 34) (bs 38 237567) HT_ HW_ hHeld ?_
              refine ta 13 (some 38) (bs 38 245759) HT_ HW_ hHeld ?_
              refine ta 18 (some 43) (bs 38 507903) HT_ HW_ hHeld ?_
              refine ro 14 (some 39) (bT 38 19) HT_ (fun K hK => ?_)
              refine gs Try.func43 #[.agg #[.int .i64 a1_0, .int .i64 a1_1, .int .i64 a1_2], .agg #[.int .i64 ((rd_T48 l2 x7_2).f0.f0), .int .i64 ((rd_T48 l2 x7_2).f0.f1), .int .i64 ((rd_T48 l2 x7_2).f0.f2), .int .i64 ((rd_T48 l2 x7_2).f0.f3), .int .i64 ((rd_T48 l2 x7_2).f1.f0), .int .i64 ((rd_T48 l2 x7_2).f1.f1)]] ?_
              with_reducible refine (spec_l06Reduce.calls _ _ _ _ _ _ _ _ _ _ _ _ _ _ _ _ A17.out).mono ?_
              rintro e w30 ⟨rfl, hb⟩
              refine ⟨_, rfl, ?_⟩
              replace BK293 := bB BK293 hb
              replace HB := bS1 HB GE293 hb
              (try clear hb)
              (try clear hb2)
              (try clear hk)
              (try clear hi)
              refine hK.out _ _ (cb3 BK293 (cx6 HB hw295_0 hw295_1 hw295_2 hw295_3 hw295_4 hw295_5 (cx6 HB hw297_0 hw297_1 hw297_2 hw297_3 hw297_4 hw297_5 (cx6 HB hw304_0 hw304_1 hw304_2 hw304_3 hw304_4 hw304_5 (cx6 HB hw305_0 hw305_1 hw305_2 hw305_3 hw305_4 hw305_5 (ex6 HB hw306_0 hw306_1 hw306_2 hw306_3 hw306_4 hw306_5)))))).out (fun hHeld => ?_)
              clear hK K
              refine norm_ (a' := ?_) ?_ ?_
              rotate_left
              ·show Act.put _ (some 39) _ = _
               simp only [Act.put, sA, sB, sC, i64_w, i32_w]
               rfl
              refine pu 19 (some 44) (bT 38 20) HT_ ?_
              refine pu 20 (some 45) (bT 38 21) HT_ ?_
              refine pu 21 (some 46) (bT 38 22) HT_ ?_
              refine pu 22 (some 47) (bT 38 23) HT_ ?_
              refine pu 23 (some 48) (bT 38 24) HT_ ?_
              refine pu 24 (some 49) (bT 38 25) HT_ ?_
              refine pu 25 (some 50) (bT 38 26) HT_ ?_
              refine pu 26 (some 51) (bT 38 27) HT_ ?_
              refine pu 27 (some 52) (bT 38 28) HT_ ?_
              refine pu 28 (some 53) (bT 38 29) HT_ ?_
              refine pu 30 (some 55) (bs 38 1610612735) HT_ ?_
              refine pu 31 (some 56) (bs 38 3758096383) HT_ ?_
              refine pu 32 (some 57) (bs 38 8053063679) HT_ ?_
              refine ta 29 (some 54) (bT 38 33) HT_ HW_ hHeld ?_
              refine ta 33 (some 58) (bT 38 34) HT_ HW_ hHeld ?_
              refine ro 34 (some 59) (bT 38 35) HT_ (fun K hK => ?_)
              refine goes_ Try.func44 (by kernel_rfl) rfl #[.agg #[.int .i64 ((rd_T48 l2 (ji23)).f0.f0), .int .i64 ((rd_T48 l2 (ji23)).f0.f1), .int .i64 ((rd_T48 l2 (ji23)).f0.f2), .int .i64 ((rd_T48 l2 (ji23)).f0.f3), .int .i64 ((rd_T48 l2 (ji23)).f1.f0), .int .i64 ((rd_T48 l2 (ji23)).f1.f1)], .agg #[.int .i64 ((rd_T48 l2 x7_2).f0.f0), .int .i64 ((rd_T48 l2 x7_2).f0.f1), .int .i64 ((rd_T48 l2 x7_2).f0.f2), .int .i64 ((rd_T48 l2 x7_2).f0.f3), .int .i64 ((rd_T48 l2 x7_2).f1.f0), .int .i64 ((rd_T48 l2 x7_2).f1.f1)]] (by rfl) rfl rfl (by (try simp only [List.map_toArray, List.map_cons, List.map_nil]); first | done | (simp only [hji23]; rfl) | rfl | (simp only [List.length_drop, List.length_take]; rfl)) ?_
              with_reducible refine (spec_l05Less.calls _ _ _ _ _ _ _ _ _ _ _ _ _ _ _ A26.out).mono ?_
              rintro e w31 ⟨rfl, hb⟩
              refine ⟨_, rfl, ?_⟩
              replace BK293 := bB BK293 hb
              replace HB := bS1 HB GE293 hb
              (try clear hb)
              (try clear hb2)
              (try clear hk)
              (try clear hi)
              refine hK.out _ _ (cb3 BK293 (cx6 HB hw295_0 hw295_1 hw295_2 hw295_3 hw295_4 hw295_5 (cx6 HB hw297_0 hw297_1 hw297_2 hw297_3 hw297_4 hw297_5 (cx6 HB hw304_0 hw304_1 hw304_2 hw304_3 hw304_4 hw304_5 (cx6 HB hw305_0 hw305_1 hw305_2 hw305_3 hw305_4 hw305_5 (ex6 HB hw306_0 hw306_1 hw306_2 hw306_3 hw306_4 hw306_5)))))).out (fun hHeld => ?_)
              clear hK K
              refine norm_ (a' := ?_) ?_ ?_
              rotate_left
              ·show Act.put _ (some 59) _ = _
               simp only [Act.put, sA, sB, sC, i64_w, i32_w]
               rfl
              refine pu 35 (some 60) (bT 38 36) HT_ ?_
              refine pu 36 (some 61) (bT 38 37) HT_ ?_
              refine pu 37 (some 62) (bT 38 38) HT_ ?_
              refine done_ (done_of HT_.out (by kernel_rfl)) ?_
              try go_wp2
              go_roundg k2
              case measure => have := HJ3.out; have := HK2.out; omega
              case rel => exact ⟨(wrap64 (x7_2 + 1)), (by first | rfl | (simp; done) | (simp [*]; done)), H', ⟨by have := HJ3.out; have := HK2.out; omega⟩, ⟨bkp BK293⟩, ⟨bbw1 HB GE293⟩⟩
             ·replace c27 := Bool.eq_false_iff.mpr c27
              subst c27
              replace H := ifF H
              obtain rfl := Option.some.inj H
              try go_wp2
              replace BK293 := asd (blk_drew BK293.out)
              replace HB := asd (below_drew1 HB.out)
              obtain ⟨p295, q295, ad295, e295, hw295_0, hw295_1, hw295_2, hw295_3, hw295_4, hw295_5, hx295_0, hx295_1, hx295_2, hx295_3, hx295_4, hx295_5⟩ := at_T48w HR2.out HB x7_2
              cases e295
              obtain ⟨p297, q297, ad297, e297, hw297_0, hw297_1, hw297_2, hw297_3, hw297_4, hw297_5, hx297_0, hx297_1, hx297_2, hx297_3, hx297_4, hx297_5⟩ := at_T48w HR2.out HB x7_2
              obtain rfl : ad295 = ad297 := (by injection e297)
              obtain ⟨p304, q304, ad304, e304, hw304_0, hw304_1, hw304_2, hw304_3, hw304_4, hw304_5, hx304_0, hx304_1, hx304_2, hx304_3, hx304_4, hx304_5⟩ := at_T48w HR2.out HB x7_2
              obtain rfl : ad295 = ad304 := (by injection e304)
              obtain ⟨p305, q305, ad305, e305, hw305_0, hw305_1, hw305_2, hw305_3, hw305_4, hw305_5, hx305_0, hx305_1, hx305_2, hx305_3, hx305_4, hx305_5⟩ := at_T48w HR2.out HB (ji23)
              obtain rfl : ad295 = ad305 := (by injection e305)
              obtain ⟨p306, q306, ad306, e306, hw306_0, hw306_1, hw306_2, hw306_3, hw306_4, hw306_5, hx306_0, hx306_1, hx306_2, hx306_3, hx306_4, hx306_5⟩ := at_T48w HR2.out HB x7_2
              obtain rfl : ad295 = ad306 := (by injection e306)
              refine sh 38 (cb3 BK293 (cx6 HB hw295_0 hw295_1 hw295_2 hw295_3 hw295_4 hw295_5 (cx6 HB hw297_0 hw297_1 hw297_2 hw297_3 hw297_4 hw297_5 (cx6 HB hw304_0 hw304_1 hw304_2 hw304_3 hw304_4 hw304_5 (cx6 HB hw305_0 hw305_1 hw305_2 hw305_3 hw305_4 hw305_5 (ex6 HB hw306_0 hw306_1 hw306_2 hw306_3 hw306_4 hw306_5)))))) (fun hHeld => ?_); refine with_tabW spec_IsGroup.tab6 spec_IsGroup.bits6 (fun HT_ HW_ => ?_)
              generalize wr.drew = w32 at BK293 HB hx295_0 hx295_1 hx295_2 hx295_3 hx295_4 hx295_5 hx297_0 hx297_1 hx297_2 hx297_3 hx297_4 hx297_5 hx304_0 hx304_1 hx304_2 hx304_3 hx304_4 hx304_5 hx305_0 hx305_1 hx305_2 hx305_3 hx305_4 hx305_5 hx306_0 hx306_1 hx306_2 hx306_3 hx306_4 hx306_5 hHeld ⊢
              refine pu 0 (some 25) (bT 38 1) HT_ ?_
              refine pu 2 (some 27) (bs 38 5) HT_ ?_
              refine pu 3 (some 28) (bs 38 13) HT_ ?_
              refine pu 4 (some 29) (bs 38 29) HT_ ?_
              refine ta 1 (some 26) (bT 38 5) HT_ HW_ hHeld ?_
              refine ta 5 (some 30) (bT 38 6) HT_ HW_ hHeld ?_
              refine ro 6 (some 31) (bT 38 7) HT_ (fun K hK => ?_)
              refine gs Try.func42 #[.int .i64 a0, .agg #[.int .i64 a1_0, .int .i64 a1_1, .int .i64 a1_2], .agg #[.int .i64 ((rd_T48 l2 x7_2).f0.f0), .int .i64 ((rd_T48 l2 x7_2).f0.f1), .int .i64 ((rd_T48 l2 x7_2).f0.f2), .int .i64 ((rd_T48 l2 x7_2).f0.f3), .int .i64 ((rd_T48 l2 x7_2).f1.f0), .int .i64 ((rd_T48 l2 x7_2).f1.f1)]] ?_
              with_reducible refine (spec_IsSuitable.calls _ _ _ _ _ _ _ _ _ _ _ _ _ A15.out).mono ?_
              rintro e w33 ⟨rfl, hb⟩
              refine ⟨_, rfl, ?_⟩
              replace BK293 := bB BK293 hb
              replace HB := bS1 HB GE293 hb
              (try clear hb)
              (try clear hb2)
              (try clear hk)
              (try clear hi)
              refine hK.out _ _ (cb3 BK293 (cx6 HB hw295_0 hw295_1 hw295_2 hw295_3 hw295_4 hw295_5 (cx6 HB hw297_0 hw297_1 hw297_2 hw297_3 hw297_4 hw297_5 (cx6 HB hw304_0 hw304_1 hw304_2 hw304_3 hw304_4 hw304_5 (cx6 HB hw305_0 hw305_1 hw305_2 hw305_3 hw305_4 hw305_5 (ex6 HB hw306_0 hw306_1 hw306_2 hw306_3 hw306_4 hw306_5)))))).out (fun hHeld => ?_)
              clear hK K
              refine norm_ (a' := ?_) ?_ ?_
              rotate_left
              ·show Act.put _ (some 31) _ = _
               simp only [Act.put, sA, sB, sC, i64_w, i32_w]
               rfl
              refine pu 7 (some 32) (bT 38 8) HT_ ?_
              refine pu 8 (some 33) (bT 38 9) HT_ ?_
              refine pu 10 (some 35) (bs 38 1535) HT_ ?_
              refine pu 11 (some 36) (bs 38 3583) HT_ ?_
              refine pu 12 (some 37) (bs 38 7679) HT_ ?_
              refine pu 15 (some 40) (bs 38 40447) HT_ ?_
              refine pu 16 (some 41) (bs 38 105983) HT_ ?_
              refine pu 17 (some 42) (bs 38 237055) HT_ ?_
              refine ta 9 (some 34) (bs 38 237567) HT_ HW_ hHeld ?_
              refine ta 13 (some 38) (bs 38 245759) HT_ HW_ hHeld ?_
              refine ta 18 (some 43) (bs 38 507903) HT_ HW_ hHeld ?_
              refine ro 14 (some 39) (bT 38 19) HT_ (fun K hK => ?_)
              refine gs Try.func43 #[.agg #[.int .i64 a1_0, .int .i64 a1_1, .int .i64 a1_2], .agg #[.int .i64 ((rd_T48 l2 x7_2).f0.f0), .int .i64 ((rd_T48 l2 x7_2).f0.f1), .int .i64 ((rd_T48 l2 x7_2).f0.f2), .int .i64 ((rd_T48 l2 x7_2).f0.f3), .int .i64 ((rd_T48 l2 x7_2).f1.f0), .int .i64 ((rd_T48 l2 x7_2).f1.f1)]] ?_
              with_reducible refine (spec_l06Reduce.calls _ _ _ _ _ _ _ _ _ _ _ _ _ _ _ _ A17.out).mono ?_
              rintro e w34 ⟨rfl, hb⟩
              refine ⟨_, rfl, ?_⟩
              replace BK293 := bB BK293 hb
              replace HB := bS1 HB GE293 hb
              (try clear hb)
              (try clear hb2)
              (try clear hk)
              (try clear hi)
              refine hK.out _ _ (cb3 BK293 (cx6 HB hw295_0 hw295_1 hw295_2 hw295_3 hw295_4 hw295_5 (cx6 HB hw297_0 hw297_1 hw297_2 hw297_3 hw297_4 hw297_5 (cx6 HB hw304_0 hw304_1 hw304_2 hw304_3 hw304_4 hw304_5 (cx6 HB hw305_0 hw305_1 hw305_2 hw305_3 hw305_4 hw305_5 (ex6 HB hw306_0 hw306_1 hw306_2 hw306_3 hw306_4 hw306_5)))))).out (fun hHeld => ?_)
              clear hK K
              refine norm_ (a' := ?_) ?_ ?_
              rotate_left
              ·show Act.put _ (some 39) _ = _
               simp only [Act.put, sA, sB, sC, i64_w, i32_w]
               rfl
              refine pu 19 (some 44) (bT 38 20) HT_ ?_
              refine pu 20 (some 45) (bT 38 21) HT_ ?_
              refine pu 21 (some 46) (bT 38 22) HT_ ?_
              refine pu 22 (some 47) (bT 38 23) HT_ ?_
              refine pu 23 (some 48) (bT 38 24) HT_ ?_
              refine pu 24 (some 49) (bT 38 25) HT_ ?_
              refine pu 25 (some 50) (bT 38 26) HT_ ?_
              refine pu 26 (some 51) (bT 38 27) HT_ ?_
              refine pu 27 (some 52) (bT 38 28) HT_ ?_
              refine pu 28 (some 53) (bT 38 29) HT_ ?_
              refine pu 30 (some 55) (bs 38 1610612735) HT_ ?_
              refine pu 31 (some 56) (bs 38 3758096383) HT_ ?_
              refine pu 32 (some 57) (bs 38 8053063679) HT_ ?_
              refine ta 29 (some 54) (bT 38 33) HT_ HW_ hHeld ?_
              refine ta 33 (some 58) (bT 38 34) HT_ HW_ hHeld ?_
              refine ro 34 (some 59) (bT 38 35) HT_ (fun K hK => ?_)
              refine goes_ Try.func44 (by kernel_rfl) rfl #[.agg #[.int .i64 ((rd_T48 l2 (ji23)).f0.f0), .int .i64 ((rd_T48 l2 (ji23)).f0.f1), .int .i64 ((rd_T48 l2 (ji23)).f0.f2), .int .i64 ((rd_T48 l2 (ji23)).f0.f3), .int .i64 ((rd_T48 l2 (ji23)).f1.f0), .int .i64 ((rd_T48 l2 (ji23)).f1.f1)], .agg #[.int .i64 ((rd_T48 l2 x7_2).f0.f0), .int .i64 ((rd_T48 l2 x7_2).f0.f1), .int .i64 ((rd_T48 l2 x7_2).f0.f2), .int .i64 ((rd_T48 l2 x7_2).f0.f3), .int .i64 ((rd_T48 l2 x7_2).f1.f0), .int .i64 ((rd_T48 l2 x7_2).f1.f1)]] (by rfl) rfl rfl (by (try simp only [List.map_toArray, List.map_cons, List.map_nil]); first | done | (simp only [hji23]; rfl) | rfl | (simp only [List.length_drop, List.length_take]; rfl)) ?_
              with_reducible refine (spec_l05Less.calls _ _ _ _ _ _ _ _ _ _ _ _ _ _ _ A26.out).mono ?_
              rintro e w35 ⟨rfl, hb⟩
              refine ⟨_, rfl, ?_⟩
              replace BK293 := bB BK293 hb
              replace HB := bS1 HB GE293 hb
              (try clear hb)
              (try clear hb2)
              (try clear hk)
              (try clear hi)
              refine hK.out _ _ (cb3 BK293 (cx6 HB hw295_0 hw295_1 hw295_2 hw295_3 hw295_4 hw295_5 (cx6 HB hw297_0 hw297_1 hw297_2 hw297_3 hw297_4 hw297_5 (cx6 HB hw304_0 hw304_1 hw304_2 hw304_3 hw304_4 hw304_5 (cx6 HB hw305_0 hw305_1 hw305_2 hw305_3 hw305_4 hw305_5 (ex6 HB hw306_0 hw306_1 hw306_2 hw306_3 hw306_4 hw306_5)))))).out (fun hHeld => ?_)
              clear hK K
              refine norm_ (a' := ?_) ?_ ?_
              rotate_left
              ·show Act.put _ (some 59) _ = _
               simp only [Act.put, sA, sB, sC, i64_w, i32_w]
               rfl
              refine pu 35 (some 60) (bT 38 36) HT_ ?_
              refine pu 36 (some 61) (bT 38 37) HT_ ?_
              refine pu 37 (some 62) (bT 38 38) HT_ ?_
              refine done_ (done_of HT_.out (by kernel_rfl)) ?_
              try go_wp2
              go_ret
              exact ⟨by first | rfl | (simp [errW_none, errW_some] <;> rfl) | (simp only [← hji23]; first | rfl | (simp [errW_none, errW_some] <;> rfl)) | (simp [*, errW_none, errW_some] <;> rfl), bbw1 HB GE293⟩
            ·rw [if_neg c25] at H
             exact absurd H (by simp)
           ·rw [if_neg c24] at H
            exact absurd H (by simp)
          ·rw [if_neg c22] at H
           have c22b0 : decide (0 < x7_2) = false := decide_eq_false c22
           clear c22
           have H' := Aside0.mk H
           clear H
           try go_wp2
           replace BK293 := asd (blk_drew BK293.out)
           replace HB := asd (below_drew1 HB.out)
           obtain ⟨p295, q295, ad295, e295, hw295_0, hw295_1, hw295_2, hw295_3, hw295_4, hw295_5, hx295_0, hx295_1, hx295_2, hx295_3, hx295_4, hx295_5⟩ := at_T48w HR2.out HB x7_2
           cases e295
           obtain ⟨p297, q297, ad297, e297, hw297_0, hw297_1, hw297_2, hw297_3, hw297_4, hw297_5, hx297_0, hx297_1, hx297_2, hx297_3, hx297_4, hx297_5⟩ := at_T48w HR2.out HB x7_2
           obtain rfl : ad295 = ad297 := (by injection e297)
           obtain ⟨p304, q304, ad304, e304, hw304_0, hw304_1, hw304_2, hw304_3, hw304_4, hw304_5, hx304_0, hx304_1, hx304_2, hx304_3, hx304_4, hx304_5⟩ := at_T48w HR2.out HB x7_2
           obtain rfl : ad295 = ad304 := (by injection e304)
           refine sh 38 (cb3 BK293 (cx6 HB hw295_0 hw295_1 hw295_2 hw295_3 hw295_4 hw295_5 (cx6 HB hw297_0 hw297_1 hw297_2 hw297_3 hw297_4 hw297_5 (ex6 HB hw304_0 hw304_1 hw304_2 hw304_3 hw304_4 hw304_5)))) (fun hHeld => ?_); refine with_tabW spec_IsGroup.tab6 spec_IsGroup.bits6 (fun HT_ HW_ => ?_)
           generalize wr.drew = w36 at BK293 HB hx295_0 hx295_1 hx295_2 hx295_3 hx295_4 hx295_5 hx297_0 hx297_1 hx297_2 hx297_3 hx297_4 hx297_5 hx304_0 hx304_1 hx304_2 hx304_3 hx304_4 hx304_5 hHeld ⊢
           refine pu 0 (some 25) (bT 38 1) HT_ ?_
           refine pu 2 (some 27) (bs 38 5) HT_ ?_
           refine pu 3 (some 28) (bs 38 13) HT_ ?_
           refine pu 4 (some 29) (bs 38 29) HT_ ?_
           refine ta 1 (some 26) (bT 38 5) HT_ HW_ hHeld ?_
           refine ta 5 (some 30) (bT 38 6) HT_ HW_ hHeld ?_
           refine ro 6 (some 31) (bT 38 7) HT_ (fun K hK => ?_)
           refine gs Try.func42 #[.int .i64 a0, .agg #[.int .i64 a1_0, .int .i64 a1_1, .int .i64 a1_2], .agg #[.int .i64 ((rd_T48 l2 x7_2).f0.f0), .int .i64 ((rd_T48 l2 x7_2).f0.f1), .int .i64 ((rd_T48 l2 x7_2).f0.f2), .int .i64 ((rd_T48 l2 x7_2).f0.f3), .int .i64 ((rd_T48 l2 x7_2).f1.f0), .int .i64 ((rd_T48 l2 x7_2).f1.f1)]] ?_
           with_reducible refine (spec_IsSuitable.calls _ _ _ _ _ _ _ _ _ _ _ _ _ A15.out).mono ?_
           rintro e w37 ⟨rfl, hb⟩
           refine ⟨_, rfl, ?_⟩
           replace BK293 := bB BK293 hb
           replace HB := bS1 HB GE293 hb
           (try clear hb)
           (try clear hb2)
           (try clear hk)
           (try clear hi)
           refine hK.out _ _ (cb3 BK293 (cx6 HB hw295_0 hw295_1 hw295_2 hw295_3 hw295_4 hw295_5 (cx6 HB hw297_0 hw297_1 hw297_2 hw297_3 hw297_4 hw297_5 (ex6 HB hw304_0 hw304_1 hw304_2 hw304_3 hw304_4 hw304_5)))).out (fun hHeld => ?_)
           clear hK K
           refine norm_ (a' := ?_) ?_ ?_
           rotate_left
           ·show Act.put _ (some 31) _ = _
            simp only [Act.put, sA, sB, sC, i64_w, i32_w]
            rfl
           refine pu 7 (some 32) (bT 38 8) HT_ ?_
           refine pu 8 (some 33) (bT 38 9) HT_ ?_
           refine pu 10 (some 35) (bs 38 1535) HT_ ?_
           refine pu 11 (some 36) (bs 38 3583) HT_ ?_
           refine pu 12 (some 37) (bs 38 7679) HT_ ?_
           refine pu 15 (some 40) (bs 38 40447) HT_ ?_
           refine pu 16 (some 41) (bs 38 105983) HT_ ?_
           refine pu 17 (some 42) (bs 38 237055) HT_ ?_
           refine ta 9 (some 34) (bs 38 237567) HT_ HW_ hHeld ?_
           refine ta 13 (some 38) (bs 38 245759) HT_ HW_ hHeld ?_
           refine ta 18 (some 43) (bs 38 507903) HT_ HW_ hHeld ?_
           refine ro 14 (some 39) (bT 38 19) HT_ (fun K hK => ?_)
           refine gs Try.func43 #[.agg #[.int .i64 a1_0, .int .i64 a1_1, .int .i64 a1_2], .agg #[.int .i64 ((rd_T48 l2 x7_2).f0.f0), .int .i64 ((rd_T48 l2 x7_2).f0.f1), .int .i64 ((rd_T48 l2 x7_2).f0.f2), .int .i64 ((rd_T48 l2 x7_2).f0.f3), .int .i64 ((rd_T48 l2 x7_2).f1.f0), .int .i64 ((rd_T48 l2 x7_2).f1.f1)]] ?_
           with_reducible refine (spec_l06Reduce.calls _ _ _ _ _ _ _ _ _ _ _ _ _ _ _ _ A17.out).mono ?_
           rintro e w38 ⟨rfl, hb⟩
           refine ⟨_, rfl, ?_⟩
           replace BK293 := bB BK293 hb
           replace HB := bS1 HB GE293 hb
           (try clear hb)
           (try clear hb2)
           (try clear hk)
           (try clear hi)
           refine hK.out _ _ (cb3 BK293 (cx6 HB hw295_0 hw295_1 hw295_2 hw295_3 hw295_4 hw295_5 (cx6 HB hw297_0 hw297_1 hw297_2 hw297_3 hw297_4 hw297_5 (ex6 HB hw304_0 hw304_1 hw304_2 hw304_3 hw304_4 hw304_5)))).out (fun hHeld => ?_)
           clear hK K
           refine norm_ (a' := ?_) ?_ ?_
           rotate_left
           ·show Act.put _ (some 39) _ = _
            simp only [Act.put, sA, sB, sC, i64_w, i32_w]
            rfl
           refine pu 19 (some 44) (bT 38 20) HT_ ?_
           refine pu 20 (some 45) (bT 38 21) HT_ ?_
           refine pu 21 (some 46) (bT 38 22) HT_ ?_
           refine pu 22 (some 47) (bT 38 23) HT_ ?_
           refine pu 23 (some 48) (bT 38 24) HT_ ?_
           refine pu 24 (some 49) (bT 38 25) HT_ ?_
           refine pf 25 (some 50) (bT 38 26) HT_ ?_
           refine pf 26 (some 51) (bT 38 27) HT_ ?_
           refine pf 27 (some 52) (bT 38 28) HT_ ?_
           refine pf 28 (some 53) (bT 38 29) HT_ ?_
           refine pf 29 (some 54) (bT 38 30) HT_ ?_
           refine pf 30 (some 55) (bT 38 31) HT_ ?_
           refine pf 31 (some 56) (bT 38 32) HT_ ?_
           refine pf 32 (some 57) (bT 38 33) HT_ ?_
           refine pf 33 (some 58) (bT 38 34) HT_ ?_
           refine pf 34 (some 59) (bT 38 35) HT_ ?_
           refine pf 35 (some 60) (bT 38 36) HT_ ?_
           refine pu 36 (some 61) (bT 38 37) HT_ ?_
           refine pu 37 (some 62) (bT 38 38) HT_ ?_
           refine done_ (done_of HT_.out (by kernel_rfl)) ?_
           try go_wp2
           go_roundg k2
           case measure => have := HJ3.out; have := HK2.out; omega
           case rel => exact ⟨(wrap64 (x7_2 + 1)), (by first | rfl | (simp; done) | (simp [*]; done)), H', ⟨by have := HJ3.out; have := HK2.out; omega⟩, ⟨bkp BK293⟩, ⟨bbw1 HB GE293⟩⟩
        ·replace c16 := Bool.eq_false_iff.mpr c16
         subst c16
         replace H := ifF H
         obtain rfl := Option.some.inj H
         try go_wp2
         replace BK293 := asd (blk_drew BK293.out)
         replace HB := asd (below_drew1 HB.out)
         obtain ⟨p295, q295, ad295, e295, hw295_0, hw295_1, hw295_2, hw295_3, hw295_4, hw295_5, hx295_0, hx295_1, hx295_2, hx295_3, hx295_4, hx295_5⟩ := at_T48w HR2.out HB x7_2
         cases e295
         refine sh 38 (cb3 BK293 (ex6 HB hw295_0 hw295_1 hw295_2 hw295_3 hw295_4 hw295_5)) (fun hHeld => ?_); refine with_tabW spec_IsGroup.tab6 spec_IsGroup.bits6 (fun HT_ HW_ => ?_)
         generalize wr.drew = w39 at BK293 HB hx295_0 hx295_1 hx295_2 hx295_3 hx295_4 hx295_5 hHeld ⊢
         refine pu 0 (some 25) (bT 38 1) HT_ ?_
         refine pu 2 (some 27) (bs 38 5) HT_ ?_
         refine pu 3 (some 28) (bs 38 13) HT_ ?_
         refine pu 4 (some 29) (bs 38 29) HT_ ?_
         refine ta 1 (some 26) (bT 38 5) HT_ HW_ hHeld ?_
         refine ta 5 (some 30) (bT 38 6) HT_ HW_ hHeld ?_
         refine ro 6 (some 31) (bT 38 7) HT_ (fun K hK => ?_)
         refine gs Try.func42 #[.int .i64 a0, .agg #[.int .i64 a1_0, .int .i64 a1_1, .int .i64 a1_2], .agg #[.int .i64 ((rd_T48 l2 x7_2).f0.f0), .int .i64 ((rd_T48 l2 x7_2).f0.f1), .int .i64 ((rd_T48 l2 x7_2).f0.f2), .int .i64 ((rd_T48 l2 x7_2).f0.f3), .int .i64 ((rd_T48 l2 x7_2).f1.f0), .int .i64 ((rd_T48 l2 x7_2).f1.f1)]] ?_
         with_reducible refine (spec_IsSuitable.calls _ _ _ _ _ _ _ _ _ _ _ _ _ A15.out).mono ?_
         rintro e w40 ⟨rfl, hb⟩
         refine ⟨_, rfl, ?_⟩
         replace BK293 := bB BK293 hb
         replace HB := bS1 HB GE293 hb
         (try clear hb)
         (try clear hb2)
         (try clear hk)
         (try clear hi)
         refine hK.out _ _ (cb3 BK293 (ex6 HB hw295_0 hw295_1 hw295_2 hw295_3 hw295_4 hw295_5)).out (fun hHeld => ?_)
         clear hK K
         refine norm_ (a' := ?_) ?_ ?_
         rotate_left
         ·show Act.put _ (some 31) _ = _
          simp only [Act.put, sA, sB, sC, i64_w, i32_w]
          rfl
         refine pu 7 (some 32) (bT 38 8) HT_ ?_
         refine pu 8 (some 33) (bT 38 9) HT_ ?_
         refine pf 9 (some 34) (bT 38 10) HT_ ?_
         refine pf 10 (some 35) (bT 38 11) HT_ ?_
         refine pf 11 (some 36) (bT 38 12) HT_ ?_
         refine pf 12 (some 37) (bT 38 13) HT_ ?_
         refine pf 13 (some 38) (bT 38 14) HT_ ?_
         refine pf 14 (some 39) (bT 38 15) HT_ ?_
         refine pf 15 (some 40) (bT 38 16) HT_ ?_
         refine pf 16 (some 41) (bT 38 17) HT_ ?_
         refine pf 17 (some 42) (bT 38 18) HT_ ?_
         refine pf 18 (some 43) (bT 38 19) HT_ ?_
         refine pf 19 (some 44) (bT 38 20) HT_ ?_
         refine pu 20 (some 45) (bT 38 21) HT_ ?_
         refine pu 21 (some 46) (bT 38 22) HT_ ?_
         refine pf 22 (some 47) (bT 38 23) HT_ ?_
         refine pf 23 (some 48) (bT 38 24) HT_ ?_
         refine pf 24 (some 49) (bT 38 25) HT_ ?_
         refine pf 25 (some 50) (bT 38 26) HT_ ?_
         refine pf 26 (some 51) (bT 38 27) HT_ ?_
         refine pf 27 (some 52) (bT 38 28) HT_ ?_
         refine pf 28 (some 53) (bT 38 29) HT_ ?_
         refine pf 29 (some 54) (bT 38 30) HT_ ?_
         refine pf 30 (some 55) (bT 38 31) HT_ ?_
         refine pf 31 (some 56) (bT 38 32) HT_ ?_
         refine pf 32 (some 57) (bT 38 33) HT_ ?_
         refine pf 33 (some 58) (bT 38 34) HT_ ?_
         refine pf 34 (some 59) (bT 38 35) HT_ ?_
         refine pf 35 (some 60) (bT 38 36) HT_ ?_
         refine pf 36 (some 61) (bT 38 37) HT_ ?_
         refine pu 37 (some 62) (bT 38 38) HT_ ?_
         refine done_ (done_of HT_.out (by kernel_rfl)) ?_
         try go_wp2
         go_ret
         exact er (bbw1 HB GE293)
       ·rw [if_neg c14] at H
        exact absurd H (by simp)
      ·rw [if_neg c13] at H
       have c13b0 := decide_eq_false c13
       clear c13
       obtain ⟨⟨t308, t309, t310, t311, t312, t313⟩, A41, H⟩ := ob H
       try dsimp only at H
       obtain ⟨t314, A42, H⟩ := ob H
       try dsimp only at H
       by_cases c43 : t314 = true
       ·subst c43
        replace H := ifT H
        have H' := Aside0.mk H
        clear H
        go_wp2_with (first | ((with_reducible refine gate_callee (f := 45) rfl ?_); refine gl 64 Try.func45 #[] ?_; (with_reducible refine (spec_l06Unit.calls _ _ _ _ _ _ _ A41.out).mono ?_); rintro e w44 ⟨rfl, hb⟩; refine ⟨_, rfl, ?_⟩; replace BK293 := bB BK293 hb; replace HB := bS1 HB GE293 hb; (try clear hb)) | ((with_reducible refine gate_callee (f := 20) rfl ?_); refine gl 65 Try.func20 #[.slice A2 l2.length c2, .agg #[.int .i64 t308, .int .i64 t309, .int .i64 t310, .int .i64 t311, .int .i64 t312, .int .i64 t313]] ?_; (with_reducible refine (spec_l06Has.calls _ _ _ _ _ _ _ _ _ _ _ _ ?side1 ?side2 A42.out).mono ?_); (case side1 => exact ks (Kd.C_below HR2.out HB.out)); (case side2 => exact HC2.out); rintro e w45 ⟨rfl, hb⟩; refine ⟨_, rfl, ?_⟩; replace BK293 := bB BK293 hb; replace HB := bS1 HB GE293 hb; (try clear hb)))
        go_loopg [8] k2 (fun kq v8 w' => ∃ (x8_3 : Int), v8 = .int .i64 x8_3 ∧ Aside0 (spec_IsGroup.l1 kq l2 x8_3 a1_0 a1_1 a1_2 = some r) ∧ Aside0 (kq ≤ k2) ∧ Aside0 (w'.heap[gb293]? = some (.cells #[.int .i64 a1_0, .int .i64 a1_1, .int .i64 a1_2] 29 (0, 0))) ∧ Aside0 (Below w.heap.size w w'))
        case atStart => exact ⟨(0), (by first | rfl | (simp; done) | (simp [*]; done)), H', ⟨Nat.le_refl _⟩, ⟨bkp BK293⟩, ⟨bbw1 HB GE293⟩⟩
        case round =>
         clear H'
         try clear c1
         try clear c2
         try clear p2
         try clear q2
         try clear hx2
         try clear p3
         try clear q3
         try clear hx3
         try clear c4
         try clear p6
         try clear c13
         try clear c13b0
         try clear c14
         try clear c16
         try clear c20
         try clear p29
         try clear q29
         try clear hx29
         try clear p30
         try clear q30
         try clear hx30
         try clear c42
         try clear c43
         try clear c45
         try clear hx295_0
         try clear hx295_1
         try clear hx295_2
         try clear hx295_3
         try clear hx295_4
         try clear hx295_5
         try clear hx297_0
         try clear hx297_1
         try clear hx297_2
         try clear hx297_3
         try clear hx297_4
         try clear hx297_5
         try clear hx304_0
         try clear hx304_1
         try clear hx304_2
         try clear hx304_3
         try clear hx304_4
         try clear hx304_5
         try clear p295
         try clear p297
         try clear p304
         try clear q295
         try clear q297
         try clear q304
         obtain ⟨x8_3, rfl, HA, HK3, BK293, HB⟩ := hrel
         cases gk with
         | zero => exact absurd HA.out (by simp [spec_IsGroup.l1])
         | succ k3 =>
          have H := HA.out
          clear HA
          simp only [spec_IsGroup.l1] at H
          by_cases c46 : x8_3 < (l2.length : Int)
          ·rw [if_pos c46] at H
           have c46b0 := decide_eq_true c46
           clear c46
           have H' := Aside0.mk H
           clear H
           go_wp2
           go_loopg [9] k3 (fun kq v9 w' => ∃ (x9_4 : Int), v9 = .int .i64 x9_4 ∧ Aside0 (spec_IsGroup.l2 kq l2 x8_3 x9_4 a1_0 a1_1 a1_2 = some r) ∧ Aside0 (kq ≤ k3) ∧ Aside0 (w'.heap[gb293]? = some (.cells #[.int .i64 a1_0, .int .i64 a1_1, .int .i64 a1_2] 29 (0, 0))) ∧ Aside0 (Below w.heap.size w w'))
           case atStart => exact ⟨(0), (by first | rfl | (simp; done) | (simp [*]; done)), H', ⟨Nat.le_refl _⟩, ⟨bkp BK293⟩, ⟨bbw1 HB GE293⟩⟩
           case round =>
            clear H'
            try clear c1
            try clear c2
            try clear p2
            try clear q2
            try clear hx2
            try clear p3
            try clear q3
            try clear hx3
            try clear c4
            try clear p6
            try clear c13
            try clear c13b0
            try clear c14
            try clear c16
            try clear c20
            try clear p29
            try clear q29
            try clear hx29
            try clear p30
            try clear q30
            try clear hx30
            try clear c42
            try clear c43
            try clear c45
            try clear c46
            try clear c46b0
            try clear hx295_0
            try clear hx295_1
            try clear hx295_2
            try clear hx295_3
            try clear hx295_4
            try clear hx295_5
            try clear hx297_0
            try clear hx297_1
            try clear hx297_2
            try clear hx297_3
            try clear hx297_4
            try clear hx297_5
            try clear hx304_0
            try clear hx304_1
            try clear hx304_2
            try clear hx304_3
            try clear hx304_4
            try clear hx304_5
            try clear p2
            try clear p29
            try clear p295
            try clear p297
            try clear p3
            try clear p30
            try clear p304
            try clear p6
            try clear q2
            try clear q29
            try clear q295
            try clear q297
            try clear q3
            try clear q30
            try clear q304
            obtain ⟨x9_4, rfl, HA, HK4, BK293, HB⟩ := hrel
            cases gk with
            | zero => exact absurd HA.out (by simp [spec_IsGroup.l2])
            | succ k4 =>
             have H := HA.out
             clear HA
             simp only [spec_IsGroup.l2] at H
             by_cases c47 : x9_4 < (l2.length : Int)
             ·rw [if_pos c47] at H
              have c47b0 := decide_eq_true c47
              clear c47
              by_cases c48 : 0 ≤ x8_3
              ·rw [if_pos c48] at H
               have c48b0 := decide_eq_true c48
               clear c48
               by_cases c49 : x8_3 < (l2.length : Int)
               ·rw [if_pos c49] at H
                have c49b0 := decide_eq_true c49
                clear c49
                by_cases c50 : 0 ≤ x9_4
                ·rw [if_pos c50] at H
                 have c50b0 := decide_eq_true c50
                 clear c50
                 obtain ⟨⟨t317, t318, t319, t320, t321, t322⟩, A51, H⟩ := ob H
                 try dsimp only at H
                 obtain ⟨⟨t323, t324, t325, t326, t327, t328⟩, A52, H⟩ := ob H
                 try dsimp only at H
                 obtain ⟨t329, A53, H⟩ := ob H
                 try dsimp only at H
                 by_cases c54 : t329 = true
                 ·subst c54
                  replace H := ifT H
                  have H' := Aside0.mk H
                  clear H
                  try go_wp2
                  replace BK293 := asd (blk_drew BK293.out)
                  replace HB := asd (below_drew1 HB.out)
                  obtain ⟨p315, q315, ad315, e315, hw315_0, hw315_1, hw315_2, hw315_3, hw315_4, hw315_5, hx315_0, hx315_1, hx315_2, hx315_3, hx315_4, hx315_5⟩ := at_T48w HR2.out HB x8_3
                  cases e315
                  obtain ⟨p316, q316, ad316, e316, hw316_0, hw316_1, hw316_2, hw316_3, hw316_4, hw316_5, hx316_0, hx316_1, hx316_2, hx316_3, hx316_4, hx316_5⟩ := at_T48w HR2.out HB x9_4
                  obtain rfl : ad315 = ad316 := (by injection e316)
                  refine sh 14 (cb3 BK293 (cx6 HB hw315_0 hw315_1 hw315_2 hw315_3 hw315_4 hw315_5 (ex6 HB hw316_0 hw316_1 hw316_2 hw316_3 hw316_4 hw316_5))) (fun hHeld => ?_); refine with_tabW spec_IsGroup.tab16 spec_IsGroup.bits16 (fun HT_ HW_ => ?_)
                  generalize wr.drew = w55 at BK293 HB hx315_0 hx315_1 hx315_2 hx315_3 hx315_4 hx315_5 hx316_0 hx316_1 hx316_2 hx316_3 hx316_4 hx316_5 hHeld ⊢
                  refine pu 0 (some 79) (bT 14 1) HT_ ?_
                  refine pu 2 (some 81) (bs 14 5) HT_ ?_
                  refine pu 3 (some 82) (bs 14 13) HT_ ?_
                  refine pu 4 (some 83) (bs 14 29) HT_ ?_
                  refine pu 6 (some 85) (bs 14 93) HT_ ?_
                  refine pu 7 (some 86) (bs 14 221) HT_ ?_
                  refine pu 8 (some 87) (bs 14 477) HT_ ?_
                  refine ta 1 (some 80) (bs 14 479) HT_ HW_ hHeld ?_
                  refine ta 5 (some 84) (bT 14 9) HT_ HW_ hHeld ?_
                  refine ta 9 (some 88) (bT 14 10) HT_ HW_ hHeld ?_
                  refine ro 10 (some 89) (bT 14 11) HT_ (fun K hK => ?_)
                  refine gs Try.func46 #[.agg #[.int .i64 ((rd_T48 l2 x8_3).f0.f0), .int .i64 ((rd_T48 l2 x8_3).f0.f1), .int .i64 ((rd_T48 l2 x8_3).f0.f2), .int .i64 ((rd_T48 l2 x8_3).f0.f3), .int .i64 ((rd_T48 l2 x8_3).f1.f0), .int .i64 ((rd_T48 l2 x8_3).f1.f1)], .agg #[.int .i64 ((rd_T48 l2 x9_4).f0.f0), .int .i64 ((rd_T48 l2 x9_4).f0.f1), .int .i64 ((rd_T48 l2 x9_4).f0.f2), .int .i64 ((rd_T48 l2 x9_4).f0.f3), .int .i64 ((rd_T48 l2 x9_4).f1.f0), .int .i64 ((rd_T48 l2 x9_4).f1.f1)]] ?_
                  with_reducible refine (spec_l05Compose.calls _ _ _ _ _ _ _ _ _ _ _ _ _ _ _ _ _ _ _ A51.out).mono ?_
                  rintro e w56 ⟨rfl, hb⟩
                  refine ⟨_, rfl, ?_⟩
                  replace BK293 := bB BK293 hb
                  replace HB := bS1 HB GE293 hb
                  (try clear hb)
                  (try clear hb2)
                  (try clear hk)
                  (try clear hi)
                  refine hK.out _ _ (cb3 BK293 (cx6 HB hw315_0 hw315_1 hw315_2 hw315_3 hw315_4 hw315_5 (ex6 HB hw316_0 hw316_1 hw316_2 hw316_3 hw316_4 hw316_5))).out (fun hHeld => ?_)
                  clear hK K
                  refine norm_ (a' := ?_) ?_ ?_
                  rotate_left
                  ·show Act.put _ (some 89) _ = _
                   simp only [Act.put, sA, sB, sC, i64_w, i32_w]
                   rfl
                  refine ro 11 (some 90) (bT 14 12) HT_ (fun K hK => ?_)
                  refine gs Try.func43 #[.agg #[.int .i64 a1_0, .int .i64 a1_1, .int .i64 a1_2], .agg #[.int .i64 t317, .int .i64 t318, .int .i64 t319, .int .i64 t320, .int .i64 t321, .int .i64 t322]] ?_
                  with_reducible refine (spec_l06Reduce.calls _ _ _ _ _ _ _ _ _ _ _ _ _ _ _ _ A52.out).mono ?_
                  rintro e w57 ⟨rfl, hb⟩
                  refine ⟨_, rfl, ?_⟩
                  replace BK293 := bB BK293 hb
                  replace HB := bS1 HB GE293 hb
                  (try clear hb)
                  (try clear hb2)
                  (try clear hk)
                  (try clear hi)
                  refine hK.out _ _ (cb3 BK293 (cx6 HB hw315_0 hw315_1 hw315_2 hw315_3 hw315_4 hw315_5 (ex6 HB hw316_0 hw316_1 hw316_2 hw316_3 hw316_4 hw316_5))).out (fun hHeld => ?_)
                  clear hK K
                  refine norm_ (a' := ?_) ?_ ?_
                  rotate_left
                  ·show Act.put _ (some 90) _ = _
                   simp only [Act.put, sA, sB, sC, i64_w, i32_w]
                   rfl
                  refine ro 12 (some 91) (bT 14 13) HT_ (fun K hK => ?_)
                  refine gs Try.func20 #[.slice (some ad315) l2.length c2, .agg #[.int .i64 t323, .int .i64 t324, .int .i64 t325, .int .i64 t326, .int .i64 t327, .int .i64 t328]] ?_
                  with_reducible refine (spec_l06Has.calls _ _ _ _ _ _ _ _ _ _ _ _ ?side1 ?side2 A53.out).mono ?_
                  (case side1 => exact ks (Kd.C_below HR2.out HB.out))
                  (case side2 => exact HC2.out)
                  rintro e w58 ⟨rfl, hb⟩
                  refine ⟨_, rfl, ?_⟩
                  replace BK293 := bB BK293 hb
                  replace HB := bS1 HB GE293 hb
                  (try clear hb)
                  (try clear hb2)
                  (try clear hk)
                  (try clear hi)
                  refine hK.out _ _ (cb3 BK293 (cx6 HB hw315_0 hw315_1 hw315_2 hw315_3 hw315_4 hw315_5 (ex6 HB hw316_0 hw316_1 hw316_2 hw316_3 hw316_4 hw316_5))).out (fun hHeld => ?_)
                  clear hK K
                  refine norm_ (a' := ?_) ?_ ?_
                  rotate_left
                  ·show Act.put _ (some 91) _ = _
                   simp only [Act.put, sA, sB, sC, i64_w, i32_w]
                   rfl
                  refine pu 13 (some 92) (bT 14 14) HT_ ?_
                  refine done_ (done_of HT_.out (by kernel_rfl)) ?_
                  try go_wp2
                  go_roundg k4
                  case measure => have := HJ3.out; have := HK2.out; have := HK3.out; have := HK4.out; omega
                  case rel => exact ⟨(wrap64 (x9_4 + 1)), (by first | rfl | (simp; done) | (simp [*]; done)), H', ⟨by have := HJ3.out; have := HK2.out; have := HK3.out; have := HK4.out; omega⟩, ⟨bkp BK293⟩, ⟨bbw1 HB GE293⟩⟩
                 ·replace c54 := Bool.eq_false_iff.mpr c54
                  subst c54
                  replace H := ifF H
                  obtain rfl := Option.some.inj H
                  try go_wp2
                  replace BK293 := asd (blk_drew BK293.out)
                  replace HB := asd (below_drew1 HB.out)
                  obtain ⟨p315, q315, ad315, e315, hw315_0, hw315_1, hw315_2, hw315_3, hw315_4, hw315_5, hx315_0, hx315_1, hx315_2, hx315_3, hx315_4, hx315_5⟩ := at_T48w HR2.out HB x8_3
                  cases e315
                  obtain ⟨p316, q316, ad316, e316, hw316_0, hw316_1, hw316_2, hw316_3, hw316_4, hw316_5, hx316_0, hx316_1, hx316_2, hx316_3, hx316_4, hx316_5⟩ := at_T48w HR2.out HB x9_4
                  obtain rfl : ad315 = ad316 := (by injection e316)
                  refine sh 14 (cb3 BK293 (cx6 HB hw315_0 hw315_1 hw315_2 hw315_3 hw315_4 hw315_5 (ex6 HB hw316_0 hw316_1 hw316_2 hw316_3 hw316_4 hw316_5))) (fun hHeld => ?_); refine with_tabW spec_IsGroup.tab16 spec_IsGroup.bits16 (fun HT_ HW_ => ?_)
                  generalize wr.drew = w59 at BK293 HB hx315_0 hx315_1 hx315_2 hx315_3 hx315_4 hx315_5 hx316_0 hx316_1 hx316_2 hx316_3 hx316_4 hx316_5 hHeld ⊢
                  refine pu 0 (some 79) (bT 14 1) HT_ ?_
                  refine pu 2 (some 81) (bs 14 5) HT_ ?_
                  refine pu 3 (some 82) (bs 14 13) HT_ ?_
                  refine pu 4 (some 83) (bs 14 29) HT_ ?_
                  refine pu 6 (some 85) (bs 14 93) HT_ ?_
                  refine pu 7 (some 86) (bs 14 221) HT_ ?_
                  refine pu 8 (some 87) (bs 14 477) HT_ ?_
                  refine ta 1 (some 80) (bs 14 479) HT_ HW_ hHeld ?_
                  refine ta 5 (some 84) (bT 14 9) HT_ HW_ hHeld ?_
                  refine ta 9 (some 88) (bT 14 10) HT_ HW_ hHeld ?_
                  refine ro 10 (some 89) (bT 14 11) HT_ (fun K hK => ?_)
                  refine gs Try.func46 #[.agg #[.int .i64 ((rd_T48 l2 x8_3).f0.f0), .int .i64 ((rd_T48 l2 x8_3).f0.f1), .int .i64 ((rd_T48 l2 x8_3).f0.f2), .int .i64 ((rd_T48 l2 x8_3).f0.f3), .int .i64 ((rd_T48 l2 x8_3).f1.f0), .int .i64 ((rd_T48 l2 x8_3).f1.f1)], .agg #[.int .i64 ((rd_T48 l2 x9_4).f0.f0), .int .i64 ((rd_T48 l2 x9_4).f0.f1), .int .i64 ((rd_T48 l2 x9_4).f0.f2), .int .i64 ((rd_T48 l2 x9_4).f0.f3), .int .i64 ((rd_T48 l2 x9_4).f1.f0), .int .i64 ((rd_T48 l2 x9_4).f1.f1)]] ?_
                  with_reducible refine (spec_l05Compose.calls _ _ _ _ _ _ _ _ _ _ _ _ _ _ _ _ _ _ _ A51.out).mono ?_
                  rintro e w60 ⟨rfl, hb⟩
                  refine ⟨_, rfl, ?_⟩
                  replace BK293 := bB BK293 hb
                  replace HB := bS1 HB GE293 hb
                  (try clear hb)
                  (try clear hb2)
                  (try clear hk)
                  (try clear hi)
                  refine hK.out _ _ (cb3 BK293 (cx6 HB hw315_0 hw315_1 hw315_2 hw315_3 hw315_4 hw315_5 (ex6 HB hw316_0 hw316_1 hw316_2 hw316_3 hw316_4 hw316_5))).out (fun hHeld => ?_)
                  clear hK K
                  refine norm_ (a' := ?_) ?_ ?_
                  rotate_left
                  ·show Act.put _ (some 89) _ = _
                   simp only [Act.put, sA, sB, sC, i64_w, i32_w]
                   rfl
                  refine ro 11 (some 90) (bT 14 12) HT_ (fun K hK => ?_)
                  refine gs Try.func43 #[.agg #[.int .i64 a1_0, .int .i64 a1_1, .int .i64 a1_2], .agg #[.int .i64 t317, .int .i64 t318, .int .i64 t319, .int .i64 t320, .int .i64 t321, .int .i64 t322]] ?_
                  with_reducible refine (spec_l06Reduce.calls _ _ _ _ _ _ _ _ _ _ _ _ _ _ _ _ A52.out).mono ?_
                  rintro e w61 ⟨rfl, hb⟩
                  refine ⟨_, rfl, ?_⟩
                  replace BK293 := bB BK293 hb
                  replace HB := bS1 HB GE293 hb
                  (try clear hb)
                  (try clear hb2)
                  (try clear hk)
                  (try clear hi)
                  refine hK.out _ _ (cb3 BK293 (cx6 HB hw315_0 hw315_1 hw315_2 hw315_3 hw315_4 hw315_5 (ex6 HB hw316_0 hw316_1 hw316_2 hw316_3 hw316_4 hw316_5))).out (fun hHeld => ?_)
                  clear hK K
                  refine norm_ (a' := ?_) ?_ ?_
                  rotate_left
                  ·show Act.put _ (some 90) _ = _
                   simp only [Act.put, sA, sB, sC, i64_w, i32_w]
                   rfl
                  refine ro 12 (some 91) (bT 14 13) HT_ (fun K hK => ?_)
                  refine gs Try.func20 #[.slice (some ad315) l2.length c2, .agg #[.int .i64 t323, .int .i64 t324, .int .i64 t325, .int .i64 t326, .int .i64 t327, .int .i64 t328]] ?_
                  with_reducible refine (spec_l06Has.calls _ _ _ _ _ _ _ _ _ _ _ _ ?side1 ?side2 A53.out).mono ?_
                  (case side1 => exact ks (Kd.C_below HR2.out HB.out))
                  (case side2 => exact HC2.out)
                  rintro e w62 ⟨rfl, hb⟩
                  refine ⟨_, rfl, ?_⟩
                  replace BK293 := bB BK293 hb
                  replace HB := bS1 HB GE293 hb
                  (try clear hb)
                  (try clear hb2)
                  (try clear hk)
                  (try clear hi)
                  refine hK.out _ _ (cb3 BK293 (cx6 HB hw315_0 hw315_1 hw315_2 hw315_3 hw315_4 hw315_5 (ex6 HB hw316_0 hw316_1 hw316_2 hw316_3 hw316_4 hw316_5))).out (fun hHeld => ?_)
                  clear hK K
                  refine norm_ (a' := ?_) ?_ ?_
                  rotate_left
                  ·show Act.put _ (some 91) _ = _
                   simp only [Act.put, sA, sB, sC, i64_w, i32_w]
                   rfl
                  refine pu 13 (some 92) (bT 14 14) HT_ ?_
                  refine done_ (done_of HT_.out (by kernel_rfl)) ?_
                  try go_wp2
                  go_ret
                  exact er (bbw1 HB GE293)
                ·rw [if_neg c50] at H
                 exact absurd H (by simp)
               ·rw [if_neg c49] at H
                exact absurd H (by simp)
              ·rw [if_neg c48] at H
               exact absurd H (by simp)
             ·rw [if_neg c47] at H
              have c47b0 := decide_eq_false c47
              clear c47
              have H' := Aside0.mk H
              clear H
              go_wp2
              go_roundg k4
              case measure => have := HJ3.out; have := HK2.out; have := HK3.out; have := HK4.out; omega
              case rel => exact ⟨(wrap64 (x8_3 + 1)), (by first | rfl | (simp; done) | (simp [*]; done)), H', ⟨by have := HJ3.out; have := HK2.out; have := HK3.out; have := HK4.out; omega⟩, ⟨bkp BK293⟩, ⟨bbw1 HB GE293⟩⟩
          ·rw [if_neg c46] at H
           have c46b0 := decide_eq_false c46
           clear c46
           obtain rfl := Option.some.inj H
           go_wp2
           go_ret
           exact er (bbw1 HB GE293)
       ·replace c43 := Bool.eq_false_iff.mpr c43
        subst c43
        replace H := ifF H
        obtain rfl := Option.some.inj H
        go_wp2_with (first | ((with_reducible refine gate_callee (f := 45) rfl ?_); refine gl 64 Try.func45 #[] ?_; (with_reducible refine (spec_l06Unit.calls _ _ _ _ _ _ _ A41.out).mono ?_); rintro e w63 ⟨rfl, hb⟩; refine ⟨_, rfl, ?_⟩; replace BK293 := bB BK293 hb; replace HB := bS1 HB GE293 hb; (try clear hb)) | ((with_reducible refine gate_callee (f := 20) rfl ?_); refine gl 65 Try.func20 #[.slice A2 l2.length c2, .agg #[.int .i64 t308, .int .i64 t309, .int .i64 t310, .int .i64 t311, .int .i64 t312, .int .i64 t313]] ?_; (with_reducible refine (spec_l06Has.calls _ _ _ _ _ _ _ _ _ _ _ _ ?side1 ?side2 A42.out).mono ?_); (case side1 => exact ks (Kd.C_below HR2.out HB.out)); (case side2 => exact HC2.out); rintro e w64 ⟨rfl, hb⟩; refine ⟨_, rfl, ?_⟩; replace BK293 := bB BK293 hb; replace HB := bS1 HB GE293 hb; (try clear hb)))
        go_ret
        exact er (bbw1 HB GE293)
end Go.Proofs.Ytilbokbfcmeleaa.PA
