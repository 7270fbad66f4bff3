/- Walks written by program: each Go function that the law reaches comes to the plain function beside it. -/
import Derived.Test.YtndfnaehpdkaiaaPBx0
import Derived.Test.YtndfnaehpdkaiaaPBx4
import Derived.Test.YtndfnaehpdkaiaaPBx5
import Derived.Test.YtndfnaehpdkaiaaPBx7
import Derived.Test.YtndfnaehpdkaiaaPBx8
namespace Go.Proofs.Ytndfnaehpdkaiaa.PB
open Go.RowKit Go.Proofs.YtndfnaehpdkaiaaW.PrintWords Go.Proofs.YtndfnaehpdkaiaaW.PrintLast Go.Proofs.YtndfnaehpdkaiaaW.PrintMore
attribute [local go_sem] max2_int min2_int max_two min_two max_three min_three max_four min_four   -- for this text's walks alone
set_option linter.unusedVariables false
set_option linter.unusedSimpArgs false

attribute [local go_sem high] eqA36
/-! ### spec_IsGroup: function 32 -/
mutual
def spec_IsGroup.j0 : Nat → Int → List (S36) → Bool → Int → Int → Int → Option (Bool)
 | 0, _, _, _, _, _, _ => none
 | k + 1, x0, x2, x18, x256000, x256001, x256002 => if x18 = true then (some false) else (spec_IsGroup.l0 k x0 x2 0 x256000 x256001 x256002)
def spec_IsGroup.l0 : Nat → Int → List (S36) → Int → Int → Int → Int → Option (Bool)
 | 0, _, _, _, _, _, _ => none
 | k + 1, x0, x2, x7, x256000, x256001, x256002 => if x7 < (x2.length : Int) then (if 0 ≤ x7 then ((spec_IsSuitable.f k x0 x256000 x256001 x256002 ((rd_T36 x2 x7).f0.f0) ((rd_T36 x2 x7).f0.f1) ((rd_T36 x2 x7).f0.f2) ((rd_T36 x2 x7).f0.f3) ((rd_T36 x2 x7).f1.f0) ((rd_T36 x2 x7).f1.f1)).bind fun t258 => (if t258 = true then ((spec_l06Reduce.f x256000 x256001 x256002 ((rd_T36 x2 x7).f0.f0) ((rd_T36 x2 x7).f0.f1) ((rd_T36 x2 x7).f0.f2) ((rd_T36 x2 x7).f0.f3) ((rd_T36 x2 x7).f1.f0) ((rd_T36 x2 x7).f1.f1)).bind fun bt260 => (if ((!(bt260.1 == ((rd_T36 x2 x7).f0.f0)) || (!(bt260.2.1 == ((rd_T36 x2 x7).f0.f1)) || (!(bt260.2.2.1 == ((rd_T36 x2 x7).f0.f2)) || (!(bt260.2.2.2.1 == ((rd_T36 x2 x7).f0.f3)))))) || ((!(bt260.2.2.2.2.1 == ((rd_T36 x2 x7).f1.f0)) || (!(bt260.2.2.2.2.2 == ((rd_T36 x2 x7).f1.f1)))))) = true then (some false) else (if x7 > 0 then (if 0 ≤ (wrap64 (x7 - 1)) then (if (wrap64 (x7 - 1)) < (x2.length : Int) then ((spec_l05Less.f k ((rd_T36 x2 (wrap64 (x7 - 1))).f0.f0) ((rd_T36 x2 (wrap64 (x7 - 1))).f0.f1) ((rd_T36 x2 (wrap64 (x7 - 1))).f0.f2) ((rd_T36 x2 (wrap64 (x7 - 1))).f0.f3) ((rd_T36 x2 (wrap64 (x7 - 1))).f1.f0) ((rd_T36 x2 (wrap64 (x7 - 1))).f1.f1) ((rd_T36 x2 x7).f0.f0) ((rd_T36 x2 x7).f0.f1) ((rd_T36 x2 x7).f0.f2) ((rd_T36 x2 x7).f0.f3) ((rd_T36 x2 x7).f1.f0) ((rd_T36 x2 x7).f1.f1)).bind fun t269 => (if t269 = true then (spec_IsGroup.l0 k x0 x2 (wrap64 (x7 + 1)) x256000 x256001 x256002) else (some false))) else (none)) else (none)) else (spec_IsGroup.l0 k x0 x2 (wrap64 (x7 + 1)) x256000 x256001 x256002)))) else (some false))) else (none)) else ((spec_l06Unit.f).bind fun bt270 => ((spec_l06Has.f k x2 bt270.1 bt270.2.1 bt270.2.2.1 bt270.2.2.2.1 bt270.2.2.2.2.1 bt270.2.2.2.2.2).bind fun t276 => (if t276 = true then (spec_IsGroup.l1 k x2 0 x256000 x256001 x256002) else (some false))))
def spec_IsGroup.l1 : Nat → List (S36) → Int → Int → Int → Int → Option (Bool)
 | 0, _, _, _, _, _ => none
 | k + 1, x2, x8, x256000, x256001, x256002 => if x8 < (x2.length : Int) then (spec_IsGroup.l2 k x2 x8 0 x256000 x256001 x256002) else (some true)
def spec_IsGroup.l2 : Nat → List (S36) → Int → Int → Int → Int → Int → Option (Bool)
 | 0, _, _, _, _, _, _ => none
 | k + 1, x2, x8, x9, x256000, x256001, x256002 => if x9 < (x2.length : Int) then (if 0 ≤ x8 then (if x8 < (x2.length : Int) then (if 0 ≤ x9 then ((spec_l05Compose.f ((rd_T36 x2 x8).f0.f0) ((rd_T36 x2 x8).f0.f1) ((rd_T36 x2 x8).f0.f2) ((rd_T36 x2 x8).f0.f3) ((rd_T36 x2 x8).f1.f0) ((rd_T36 x2 x8).f1.f1) ((rd_T36 x2 x9).f0.f0) ((rd_T36 x2 x9).f0.f1) ((rd_T36 x2 x9).f0.f2) ((rd_T36 x2 x9).f0.f3) ((rd_T36 x2 x9).f1.f0) ((rd_T36 x2 x9).f1.f1)).bind fun bt279 => ((spec_l06Reduce.f x256000 x256001 x256002 bt279.1 bt279.2.1 bt279.2.2.1 bt279.2.2.2.1 bt279.2.2.2.2.1 bt279.2.2.2.2.2).bind fun bt285 => ((spec_l06Has.f k x2 bt285.1 bt285.2.1 bt285.2.2.1 bt285.2.2.2.1 bt285.2.2.2.2.1 bt285.2.2.2.2.2).bind fun t291 => (if t291 = true then (spec_IsGroup.l2 k x2 x8 (wrap64 (x9 + 1)) x256000 x256001 x256002) else (some false))))) else (none)) else (none)) else (none)) else (spec_IsGroup.l1 k x2 (wrap64 (x8 + 1)) x256000 x256001 x256002)
end
def spec_IsGroup.f (k : Nat) (a0 : Int) (a1_0 : Int) (a1_1 : Int) (a1_2 : Int) (l2 : List (S36)) : Option (Bool) := (spec_l04Code.f a0 a1_0 a1_1 a1_2).bind fun t256 => (if t256 = 0 then (spec_IsGroup.j0 k a0 l2 (decide ((l2.length : Int) > 768)) a1_0 a1_1 a1_2) else (spec_IsGroup.j0 k a0 l2 true a1_0 a1_1 a1_2))
def spec_IsGroup.T6 : Bool × List (List Nat × List Nat) := (true, [([], []), ([], []), ([], []), ([], []), ([2, 3], [2, 3]), ([4], [4]), ([0, 1, 5], [0, 1, 5]), ([6], [6]), ([7, 6], [7]), ([8], [8]), ([8], [8]), ([8], [8]), ([10, 11, 8], [8, 10, 11]), ([12, 8], [8, 12]), ([9, 13, 8, 8], [8, 9, 13]), ([8], [8]), ([8], [8]), ([15, 16, 8], [8, 15, 16]), ([17, 8], [8, 17]), ([14, 18, 8], [8, 14, 18]), ([8, 19], [8, 19]), ([20, 14], [20]), ([21], [21]), ([22, 21], [21, 22]), ([23, 21, 21], [21, 23]), ([24], [24]), ([24], [24]), ([26, 24], [24, 26]), ([25, 27, 24], [24, 25, 27]), ([28, 24], [24, 28]), ([24], [24]), ([24], [24]), ([30, 31, 24], [24, 30, 31]), ([32, 24], [24, 32]), ([29, 33, 24, 24], [24, 29, 33]), ([34, 24], [24, 34]), ([24, 35, 21], [21, 24, 35]), ([21, 36], [21, 36])])
def spec_IsGroup.B6 : List Nat := [0, 0, 0, 0, 12, 28, 63, 127, 255, 511, 511, 511, 3583, 7679, 16383, 511, 511, 98815, 229887, 524287, 1048575, 2097151, 4194303, 8388607, 16777215, 33554431, 33554431, 100663295, 268435455, 536870911, 33554431, 33554431, 3254779903, 7549747199, 17179869183, 34359738367, 68719476735, 137438953471]
theorem spec_IsGroup.tab6 : rtab .any (opsOf Try.f32 6) = spec_IsGroup.T6 := by kernel_rfl
theorem spec_IsGroup.bits6 : waitsOk spec_IsGroup.T6.2 spec_IsGroup.B6 = true := by kernel_rfl
def spec_IsGroup.T16 : Bool × List (List Nat × List Nat) := (true, [([], []), ([], []), ([], []), ([], []), ([2, 3], [2, 3]), ([4], [4]), ([], []), ([], []), ([6, 7], [6, 7]), ([8], [8]), ([5, 9], [5, 9]), ([1, 10, 10], [1, 10]), ([0, 11, 11], [0, 11]), ([12], [12])])
def spec_IsGroup.B16 : List Nat := [0, 0, 0, 0, 12, 28, 0, 0, 192, 448, 1020, 2046, 4095, 8191]
theorem spec_IsGroup.tab16 : rtab .any (opsOf Try.f32 16) = spec_IsGroup.T16 := by kernel_rfl
theorem spec_IsGroup.bits16 : waitsOk spec_IsGroup.T16.2 spec_IsGroup.B16 = true := by kernel_rfl
set_option maxHeartbeats 8000000 in
set_option maxRecDepth 100000 in
theorem spec_IsGroup.calls (k : Nat) (a0 : Int) (a1_0 : Int) (a1_1 : Int) (a1_2 : Int) (A2 : Option Addr) (c2 : Nat) (l2 : List (S36)) (r : Bool) (w : World) (hr2 : Kd.C k36 w A2 l2.length l2) (hc2 : l2.length ≤ c2) (h : spec_IsGroup.f k a0 a1_0 a1_1 a1_2 l2 = some r) :
  Calls Try.prog 32 #[.int .i64 a0, .agg #[.int .i64 a1_0, .int .i64 a1_1, .int .i64 a1_2], .slice A2 l2.length c2] w fun e w' => e = .returned (.bool r) ∧ Below w.heap.size w w' := by
 have hu31 := Try.underlying31
 have hu36 := Try.underlying36
 have HR2 := Aside0.mk hr2
 have HC2 := Aside0.mk hc2
 clear hr2 hc2
 have HB := Aside0.mk (Below.refl w.heap.size w)
 have H : ((spec_l04Code.f a0 a1_0 a1_1 a1_2).bind fun t256 => (if t256 = 0 then (spec_IsGroup.j0 k a0 l2 (decide ((l2.length : Int) > 768)) a1_0 a1_1 a1_2) else (spec_IsGroup.j0 k a0 l2 true a1_0 a1_1 a1_2))) = some r := h
 clear h
 have HC4 := Aside0.mk H
 clear H
 go_enter Try.func32, Try.ntmps32
 go_upto_region 1 with (first | ((with_reducible refine gate_dst (N := 4) rfl ?_); (try (refine gate_guard (by rfl) ?_; dsimp only)); refine box_event ?hg (N := 4) ?hd (cs := #[.int .i64 a1_0, .int .i64 a1_1, .int .i64 a1_2]) (t := 31) ?hr ?_; (case hd => rfl); (case hg => rfl); (case hr => first | (go_simp; done) | (go_simp; rfl)); intro gb255 hg w5 hbox hb; have BK255 := Aside0.mk (hbox); have GW255 := ngw0 hg HB; have GE255 := ngw0 hg HB; replace HB := Aside0.mk (bst0 HB hb); clear hb hbox hg))
 (try simp only [Act.put, sA, sB, sC])
 go_cut [18] (fun v18 wc => ∃ (kq : Nat) (x18_3 : Bool), v18 = .bool x18_3 ∧ Aside0 (spec_IsGroup.j0 kq a0 l2 x18_3 a1_0 a1_1 a1_2 = some r) ∧ Aside0 (kq ≤ k) ∧ Aside0 (wc.heap[gb255]? = some (.cells #[.int .i64 a1_0, .int .i64 a1_1, .int .i64 a1_2] 31 (0, 0))) ∧ Aside0 (Below w.heap.size w wc))
 case first =>
  have H := HC4.out
  clear HC4
  replace H := Option.bind_eq_some_iff.mp H
  obtain ⟨t256, A60, H⟩ := H
  replace H : (if t256 = 0 then (spec_IsGroup.j0 k a0 l2 (decide ((l2.length : Int) > 768)) a1_0 a1_1 a1_2) else (spec_IsGroup.j0 k a0 l2 true a1_0 a1_1 a1_2)) = some r := H
  have A6 := Aside0.mk A60
  clear A60
  by_cases c7 : t256 = 0
  ·rw [if_pos c7] at H
   have c7b0 : (t256 == 0) = true := beq_iff_eq.mpr c7
   have c7b1 : (t256 != 0) = false := bne_eq_false_iff_eq.mpr c7
   clear c7
   (first | rw [c7b0] | (simp only [i64_w, i32_w]; rw [c7b0]) | skip)
   have H' := Aside0.mk H
   clear H
   obtain ⟨hcz8_0, hcz8_1, hcz8_2, hfz8_0, hfz8_1, hfz8_2⟩ := bz3 BK255
   go_wp2_with (first | ((with_reducible refine gate_callee (f := 38) rfl ?_); refine goesL_ (some 12) rfl rfl Try.func38 (by kernel_rfl) rfl #[.int .i64 a0, .agg #[.int .i64 a1_0, .int .i64 a1_1, .int .i64 a1_2]] rfl (by (try simp only [List.map_toArray, List.map_cons, List.map_nil]); first | done | rfl | (simp only [List.length_drop, List.length_take]; rfl)) ?_; (with_reducible refine (spec_l04Code.calls a0 a1_0 a1_1 a1_2 t256 _ A6.out).mono ?_); rintro e w9 ⟨rfl, hb⟩; refine ⟨_, rfl, ?_⟩; replace BK255 := Aside0.mk (bbl BK255 hb); replace HB := Aside0.mk (bst1 HB GE255 hb); (try clear hb); (try clear hb2); (try clear hk); (try clear hi)))
   go_meet
   case rel => exact ⟨_, (decide ((l2.length : Int) > 768)), (by first | rfl | (simp; done) | (simp [*]; done)), H', ⟨by first | omega | exact Nat.le_refl _⟩, ⟨bkp BK255⟩, ⟨bbw1 HB GE255⟩⟩
  ·rw [if_neg c7] at H
   have c7b0 : (t256 == 0) = false := beq_eq_false_iff_ne.mpr c7
   have c7b1 : (t256 != 0) = true := bne_iff_ne.mpr c7
   (first | rw [c7b0] | (simp only [i64_w, i32_w]; rw [c7b0]) | skip)
   have H' := Aside0.mk H
   clear H
   obtain ⟨hcz10_0, hcz10_1, hcz10_2, hfz10_0, hfz10_1, hfz10_2⟩ := bz3 BK255
   go_wp2_with (first | ((with_reducible refine gate_callee (f := 38) rfl ?_); refine goesL_ (some 12) rfl rfl Try.func38 (by kernel_rfl) rfl #[.int .i64 a0, .agg #[.int .i64 a1_0, .int .i64 a1_1, .int .i64 a1_2]] rfl (by (try simp only [List.map_toArray, List.map_cons, List.map_nil]); first | done | rfl | (simp only [List.length_drop, List.length_take]; rfl)) ?_; (with_reducible refine (spec_l04Code.calls a0 a1_0 a1_1 a1_2 t256 _ A6.out).mono ?_); rintro e w11 ⟨rfl, hb⟩; refine ⟨_, rfl, ?_⟩; replace BK255 := Aside0.mk (bbl BK255 hb); replace HB := Aside0.mk (bst1 HB GE255 hb); (try clear hb); (try clear hb2); (try clear hk); (try clear hi)))
   go_meet
   case rel => exact ⟨_, (true), (by first | rfl | (simp; done) | (simp [*]; done)), H', ⟨by first | omega | exact Nat.le_refl _⟩, ⟨bkp BK255⟩, ⟨bbw1 HB GE255⟩⟩
 case rest =>
  clear HC4
  try clear c2
  try clear p2
  try clear c3
  try clear c7
  try clear c7b0
  try clear c7b1
  try clear hcz10_0
  try clear hcz10_1
  try clear hcz10_2
  try clear hcz8_0
  try clear hcz8_1
  try clear hcz8_2
  try clear hfz10_0
  try clear hfz10_1
  try clear hfz10_2
  try clear hfz8_0
  try clear hfz8_1
  try clear hfz8_2
  obtain ⟨kq, x18_3, rfl, HA, HJ3, BK255, HB⟩ := hcut
  cases kq with
  | zero => exact absurd HA.out (by simp [spec_IsGroup.j0])
  | succ kj3 =>
   have H := HA.out
   clear HA
   simp only [spec_IsGroup.j0] at H
   by_cases c12 : x18_3 = true
   ·subst c12
    have H1 : (some false) = some r := by rw [if_pos rfl] at H; first | done | exact H
    clear H
    have H := H1
    clear H1
    obtain rfl := Option.some.inj H
    go_wp2
    go_ret
    exact ⟨by first | rfl | (simp [errW_none, errW_some] <;> rfl) | (simp [*, errW_none, errW_some] <;> rfl), bbw1 HB GE255⟩
   ·replace c12 := Bool.eq_false_iff.mpr c12
    subst c12
    have H1 : (spec_IsGroup.l0 kj3 a0 l2 0 a1_0 a1_1 a1_2) = some r := by rw [if_neg (show ¬ (false = true) by decide)] at H; first | done | exact H
    clear H
    have H := H1
    clear H1
    have H' := Aside0.mk H
    clear H
    go_wp2
    go_loopg [7] kj3 (fun kq v7 w' => ∃ (x7_2 : Int), v7 = .int .i64 x7_2 ∧ Aside0 (spec_IsGroup.l0 kq a0 l2 x7_2 a1_0 a1_1 a1_2 = some r) ∧ Aside0 (kq ≤ kj3) ∧ Aside0 (w'.heap[gb255]? = some (.cells #[.int .i64 a1_0, .int .i64 a1_1, .int .i64 a1_2] 31 (0, 0))) ∧ Aside0 (Below w.heap.size w w'))
    case atStart => exact ⟨(0), (by first | rfl | (simp; done) | (simp [*]; done)), H', ⟨Nat.le_refl _⟩, ⟨bkp BK255⟩, ⟨bbw1 HB GE255⟩⟩
    case round =>
     clear H'
     try clear c1
     try clear c2
     try clear p2
     try clear c3
     try clear c7
     try clear c7b0
     try clear c7b1
     try clear c12
     try clear hcz10_0
     try clear hcz10_1
     try clear hcz10_2
     try clear hcz8_0
     try clear hcz8_1
     try clear hcz8_2
     try clear hfz10_0
     try clear hfz10_1
     try clear hfz10_2
     try clear hfz8_0
     try clear hfz8_1
     try clear hfz8_2
     try clear p2
     obtain ⟨x7_2, rfl, HA, HK2, BK255, HB⟩ := hrel
     cases gk with
     | zero => exact absurd HA.out (by simp [spec_IsGroup.l0])
     | succ k2 =>
      have H := HA.out
      clear HA
      simp only [spec_IsGroup.l0] at H
      by_cases c13 : x7_2 < (l2.length : Int)
      ·rw [if_pos c13] at H
       have c13b0 : decide (x7_2 < (l2.length : Int)) = true := decide_eq_true c13
       clear c13
       by_cases c14 : 0 ≤ x7_2
       ·rw [if_pos c14] at H
        have c14b0 : decide (0 ≤ x7_2) = true := decide_eq_true c14
        clear c14
        replace H := Option.bind_eq_some_iff.mp H
        obtain ⟨t258, A150, H⟩ := H
        replace H : (if t258 = true then ((spec_l06Reduce.f a1_0 a1_1 a1_2 ((rd_T36 l2 x7_2).f0.f0) ((rd_T36 l2 x7_2).f0.f1) ((rd_T36 l2 x7_2).f0.f2) ((rd_T36 l2 x7_2).f0.f3) ((rd_T36 l2 x7_2).f1.f0) ((rd_T36 l2 x7_2).f1.f1)).bind fun bt260 => (if ((!(bt260.1 == ((rd_T36 l2 x7_2).f0.f0)) || (!(bt260.2.1 == ((rd_T36 l2 x7_2).f0.f1)) || (!(bt260.2.2.1 == ((rd_T36 l2 x7_2).f0.f2)) || (!(bt260.2.2.2.1 == ((rd_T36 l2 x7_2).f0.f3)))))) || ((!(bt260.2.2.2.2.1 == ((rd_T36 l2 x7_2).f1.f0)) || (!(bt260.2.2.2.2.2 == ((rd_T36 l2 x7_2).f1.f1)))))) = true then (some false) else (if x7_2 > 0 then (if 0 ≤ (wrap64 (x7_2 - 1)) then (if (wrap64 (x7_2 - 1)) < (l2.length : Int) then ((spec_l05Less.f k2 ((rd_T36 l2 (wrap64 (x7_2 - 1))).f0.f0) ((rd_T36 l2 (wrap64 (x7_2 - 1))).f0.f1) ((rd_T36 l2 (wrap64 (x7_2 - 1))).f0.f2) ((rd_T36 l2 (wrap64 (x7_2 - 1))).f0.f3) ((rd_T36 l2 (wrap64 (x7_2 - 1))).f1.f0) ((rd_T36 l2 (wrap64 (x7_2 - 1))).f1.f1) ((rd_T36 l2 x7_2).f0.f0) ((rd_T36 l2 x7_2).f0.f1) ((rd_T36 l2 x7_2).f0.f2) ((rd_T36 l2 x7_2).f0.f3) ((rd_T36 l2 x7_2).f1.f0) ((rd_T36 l2 x7_2).f1.f1)).bind fun t269 => (if t269 = true then (spec_IsGroup.l0 k2 a0 l2 (wrap64 (x7_2 + 1)) a1_0 a1_1 a1_2) else (some false))) else (none)) else (none)) else (spec_IsGroup.l0 k2 a0 l2 (wrap64 (x7_2 + 1)) a1_0 a1_1 a1_2)))) else (some false)) = some r := H
        have A15 := Aside0.mk A150
        clear A150
        by_cases c16 : t258 = true
        ·subst c16
         have H1 : ((spec_l06Reduce.f a1_0 a1_1 a1_2 ((rd_T36 l2 x7_2).f0.f0) ((rd_T36 l2 x7_2).f0.f1) ((rd_T36 l2 x7_2).f0.f2) ((rd_T36 l2 x7_2).f0.f3) ((rd_T36 l2 x7_2).f1.f0) ((rd_T36 l2 x7_2).f1.f1)).bind fun bt260 => (if ((!(bt260.1 == ((rd_T36 l2 x7_2).f0.f0)) || (!(bt260.2.1 == ((rd_T36 l2 x7_2).f0.f1)) || (!(bt260.2.2.1 == ((rd_T36 l2 x7_2).f0.f2)) || (!(bt260.2.2.2.1 == ((rd_T36 l2 x7_2).f0.f3)))))) || ((!(bt260.2.2.2.2.1 == ((rd_T36 l2 x7_2).f1.f0)) || (!(bt260.2.2.2.2.2 == ((rd_T36 l2 x7_2).f1.f1)))))) = true then (some false) else (if x7_2 > 0 then (if 0 ≤ (wrap64 (x7_2 - 1)) then (if (wrap64 (x7_2 - 1)) < (l2.length : Int) then ((spec_l05Less.f k2 ((rd_T36 l2 (wrap64 (x7_2 - 1))).f0.f0) ((rd_T36 l2 (wrap64 (x7_2 - 1))).f0.f1) ((rd_T36 l2 (wrap64 (x7_2 - 1))).f0.f2) ((rd_T36 l2 (wrap64 (x7_2 - 1))).f0.f3) ((rd_T36 l2 (wrap64 (x7_2 - 1))).f1.f0) ((rd_T36 l2 (wrap64 (x7_2 - 1))).f1.f1) ((rd_T36 l2 x7_2).f0.f0) ((rd_T36 l2 x7_2).f0.f1) ((rd_T36 l2 x7_2).f0.f2) ((rd_T36 l2 x7_2).f0.f3) ((rd_T36 l2 x7_2).f1.f0) ((rd_T36 l2 x7_2).f1.f1)).bind fun t269 => (if t269 = true then (spec_IsGroup.l0 k2 a0 l2 (wrap64 (x7_2 + 1)) a1_0 a1_1 a1_2) else (some false))) else (none)) else (none)) else (spec_IsGroup.l0 k2 a0 l2 (wrap64 (x7_2 + 1)) a1_0 a1_1 a1_2)))) = some r := by rw [if_pos rfl] at H; first | done | exact H
         clear H
         have H := H1
         clear H1
         replace H := Option.bind_eq_some_iff.mp H
         obtain ⟨⟨t260, t261, t262, t263, t264, t265⟩, A170, H⟩ := H
         replace H : (if ((!(t260 == ((rd_T36 l2 x7_2).f0.f0)) || (!(t261 == ((rd_T36 l2 x7_2).f0.f1)) || (!(t262 == ((rd_T36 l2 x7_2).f0.f2)) || (!(t263 == ((rd_T36 l2 x7_2).f0.f3)))))) || ((!(t264 == ((rd_T36 l2 x7_2).f1.f0)) || (!(t265 == ((rd_T36 l2 x7_2).f1.f1)))))) = true then (some false) else (if x7_2 > 0 then (if 0 ≤ (wrap64 (x7_2 - 1)) then (if (wrap64 (x7_2 - 1)) < (l2.length : Int) then ((spec_l05Less.f k2 ((rd_T36 l2 (wrap64 (x7_2 - 1))).f0.f0) ((rd_T36 l2 (wrap64 (x7_2 - 1))).f0.f1) ((rd_T36 l2 (wrap64 (x7_2 - 1))).f0.f2) ((rd_T36 l2 (wrap64 (x7_2 - 1))).f0.f3) ((rd_T36 l2 (wrap64 (x7_2 - 1))).f1.f0) ((rd_T36 l2 (wrap64 (x7_2 - 1))).f1.f1) ((rd_T36 l2 x7_2).f0.f0) ((rd_T36 l2 x7_2).f0.f1) ((rd_T36 l2 x7_2).f0.f2) ((rd_T36 l2 x7_2).f0.f3) ((rd_T36 l2 x7_2).f1.f0) ((rd_T36 l2 x7_2).f1.f1)).bind fun t269 => (if t269 = true then (spec_IsGroup.l0 k2 a0 l2 (wrap64 (x7_2 + 1)) a1_0 a1_1 a1_2) else (some false))) else (none)) else (none)) else (spec_IsGroup.l0 k2 a0 l2 (wrap64 (x7_2 + 1)) a1_0 a1_1 a1_2))) = some r := H
         have A17 := Aside0.mk A170
         clear A170
         by_cases c18 : ((!(t260 == ((rd_T36 l2 x7_2).f0.f0)) || (!(t261 == ((rd_T36 l2 x7_2).f0.f1)) || (!(t262 == ((rd_T36 l2 x7_2).f0.f2)) || (!(t263 == ((rd_T36 l2 x7_2).f0.f3)))))) || ((!(t264 == ((rd_T36 l2 x7_2).f1.f0)) || (!(t265 == ((rd_T36 l2 x7_2).f1.f1)))))) = true
         ·rw [if_pos c18] at H
          have c18b0 : ((!(t260 == ((rd_T36 l2 x7_2).f0.f0)) || (!(t261 == ((rd_T36 l2 x7_2).f0.f1)) || (!(t262 == ((rd_T36 l2 x7_2).f0.f2)) || (!(t263 == ((rd_T36 l2 x7_2).f0.f3)))))) || ((!(t264 == ((rd_T36 l2 x7_2).f1.f0)) || (!(t265 == ((rd_T36 l2 x7_2).f1.f1)))))) = true := c18
          clear c18
          obtain rfl := Option.some.inj H
          try go_wp2
          replace BK255 := Aside0.mk (blk_drew BK255.out)
          replace HB := Aside0.mk (below_drew1 HB.out)
          have p257 : 0 ≤ (x7_2 : Int) := of_decide_eq_true (by first | (with_reducible assumption) | assumption)
          have q257 : x7_2 < (l2.length : Int) := of_decide_eq_true (by first | (with_reducible assumption) | assumption)
          obtain ⟨ad257, e257, hx257_0, hx257_1, hx257_2, hx257_3, hx257_4, hx257_5⟩ := at_T36 HR2.out x7_2 p257 q257
          have hw257_5 := hx257_5
          have hw257_4 := hx257_4
          have hw257_3 := hx257_3
          have hw257_2 := hx257_2
          have hw257_1 := hx257_1
          have hw257_0 := hx257_0
          cases e257
          replace hx257_0 := (HB.out.cell (World.block_lt_of_cell? w _ hx257_0)).trans hx257_0
          replace hx257_1 := (HB.out.cell (World.block_lt_of_cell? w _ hx257_1)).trans hx257_1
          replace hx257_2 := (HB.out.cell (World.block_lt_of_cell? w _ hx257_2)).trans hx257_2
          replace hx257_3 := (HB.out.cell (World.block_lt_of_cell? w _ hx257_3)).trans hx257_3
          replace hx257_4 := (HB.out.cell (World.block_lt_of_cell? w _ hx257_4)).trans hx257_4
          replace hx257_5 := (HB.out.cell (World.block_lt_of_cell? w _ hx257_5)).trans hx257_5
          replace p257 := eq_true p257
          replace q257 := eq_true q257
          have p259 : 0 ≤ (x7_2 : Int) := of_decide_eq_true (by first | (with_reducible assumption) | assumption)
          have q259 : x7_2 < (l2.length : Int) := of_decide_eq_true (by first | (with_reducible assumption) | assumption)
          obtain ⟨ad259, e259, hx259_0, hx259_1, hx259_2, hx259_3, hx259_4, hx259_5⟩ := at_T36 HR2.out x7_2 p259 q259
          have hw259_5 := hx259_5
          have hw259_4 := hx259_4
          have hw259_3 := hx259_3
          have hw259_2 := hx259_2
          have hw259_1 := hx259_1
          have hw259_0 := hx259_0
          obtain rfl : ad257 = ad259 := (by injection e259)
          replace hx259_0 := (HB.out.cell (World.block_lt_of_cell? w _ hx259_0)).trans hx259_0
          replace hx259_1 := (HB.out.cell (World.block_lt_of_cell? w _ hx259_1)).trans hx259_1
          replace hx259_2 := (HB.out.cell (World.block_lt_of_cell? w _ hx259_2)).trans hx259_2
          replace hx259_3 := (HB.out.cell (World.block_lt_of_cell? w _ hx259_3)).trans hx259_3
          replace hx259_4 := (HB.out.cell (World.block_lt_of_cell? w _ hx259_4)).trans hx259_4
          replace hx259_5 := (HB.out.cell (World.block_lt_of_cell? w _ hx259_5)).trans hx259_5
          replace p259 := eq_true p259
          replace q259 := eq_true q259
          have p266 : 0 ≤ (x7_2 : Int) := of_decide_eq_true (by first | (with_reducible assumption) | assumption)
          have q266 : x7_2 < (l2.length : Int) := of_decide_eq_true (by first | (with_reducible assumption) | assumption)
          obtain ⟨ad266, e266, hx266_0, hx266_1, hx266_2, hx266_3, hx266_4, hx266_5⟩ := at_T36 HR2.out x7_2 p266 q266
          have hw266_5 := hx266_5
          have hw266_4 := hx266_4
          have hw266_3 := hx266_3
          have hw266_2 := hx266_2
          have hw266_1 := hx266_1
          have hw266_0 := hx266_0
          obtain rfl : ad257 = ad266 := (by injection e266)
          replace hx266_0 := (HB.out.cell (World.block_lt_of_cell? w _ hx266_0)).trans hx266_0
          replace hx266_1 := (HB.out.cell (World.block_lt_of_cell? w _ hx266_1)).trans hx266_1
          replace hx266_2 := (HB.out.cell (World.block_lt_of_cell? w _ hx266_2)).trans hx266_2
          replace hx266_3 := (HB.out.cell (World.block_lt_of_cell? w _ hx266_3)).trans hx266_3
          replace hx266_4 := (HB.out.cell (World.block_lt_of_cell? w _ hx266_4)).trans hx266_4
          replace hx266_5 := (HB.out.cell (World.block_lt_of_cell? w _ hx266_5)).trans hx266_5
          replace p266 := eq_true p266
          replace q266 := eq_true q266
          refine start_ (n := 38) (S := fun w' => w'.cell? ⟨gb255, 0, none⟩ = some (.int .i64 a1_0) ∧ w'.cell? ⟨gb255, 1, none⟩ = some (.int .i64 a1_1) ∧ w'.cell? ⟨gb255, 2, none⟩ = some (.int .i64 a1_2) ∧ w'.cell? (ad257.add ((x7_2).toNat * 6)) = some (.int .i64 ((rd_T36 l2 x7_2).f0.f0)) ∧ w'.cell? ⟨(ad257.add ((x7_2).toNat * 6)).block, (ad257.add ((x7_2).toNat * 6)).off + 1, none⟩ = some (.int .i64 ((rd_T36 l2 x7_2).f0.f1)) ∧ w'.cell? ⟨(ad257.add ((x7_2).toNat * 6)).block, (ad257.add ((x7_2).toNat * 6)).off + 2, none⟩ = some (.int .i64 ((rd_T36 l2 x7_2).f0.f2)) ∧ w'.cell? ⟨(ad257.add ((x7_2).toNat * 6)).block, (ad257.add ((x7_2).toNat * 6)).off + 3, none⟩ = some (.int .i64 ((rd_T36 l2 x7_2).f0.f3)) ∧ w'.cell? ⟨(ad257.add ((x7_2).toNat * 6)).block, (ad257.add ((x7_2).toNat * 6)).off + 4, none⟩ = some (.int .i64 ((rd_T36 l2 x7_2).f1.f0)) ∧ w'.cell? ⟨(ad257.add ((x7_2).toNat * 6)).block, (ad257.add ((x7_2).toNat * 6)).off + 5, none⟩ = some (.int .i64 ((rd_T36 l2 x7_2).f1.f1)) ∧ w'.cell? (ad257.add ((x7_2).toNat * 6)) = some (.int .i64 ((rd_T36 l2 x7_2).f0.f0)) ∧ w'.cell? ⟨(ad257.add ((x7_2).toNat * 6)).block, (ad257.add ((x7_2).toNat * 6)).off + 1, none⟩ = some (.int .i64 ((rd_T36 l2 x7_2).f0.f1)) ∧ w'.cell? ⟨(ad257.add ((x7_2).toNat * 6)).block, (ad257.add ((x7_2).toNat * 6)).off + 2, none⟩ = some (.int .i64 ((rd_T36 l2 x7_2).f0.f2)) ∧ w'.cell? ⟨(ad257.add ((x7_2).toNat * 6)).block, (ad257.add ((x7_2).toNat * 6)).off + 3, none⟩ = some (.int .i64 ((rd_T36 l2 x7_2).f0.f3)) ∧ w'.cell? ⟨(ad257.add ((x7_2).toNat * 6)).block, (ad257.add ((x7_2).toNat * 6)).off + 4, none⟩ = some (.int .i64 ((rd_T36 l2 x7_2).f1.f0)) ∧ w'.cell? ⟨(ad257.add ((x7_2).toNat * 6)).block, (ad257.add ((x7_2).toNat * 6)).off + 5, none⟩ = some (.int .i64 ((rd_T36 l2 x7_2).f1.f1)) ∧ w'.cell? (ad257.add ((x7_2).toNat * 6)) = some (.int .i64 ((rd_T36 l2 x7_2).f0.f0)) ∧ w'.cell? ⟨(ad257.add ((x7_2).toNat * 6)).block, (ad257.add ((x7_2).toNat * 6)).off + 1, none⟩ = some (.int .i64 ((rd_T36 l2 x7_2).f0.f1)) ∧ w'.cell? ⟨(ad257.add ((x7_2).toNat * 6)).block, (ad257.add ((x7_2).toNat * 6)).off + 2, none⟩ = some (.int .i64 ((rd_T36 l2 x7_2).f0.f2)) ∧ w'.cell? ⟨(ad257.add ((x7_2).toNat * 6)).block, (ad257.add ((x7_2).toNat * 6)).off + 3, none⟩ = some (.int .i64 ((rd_T36 l2 x7_2).f0.f3)) ∧ w'.cell? ⟨(ad257.add ((x7_2).toNat * 6)).block, (ad257.add ((x7_2).toNat * 6)).off + 4, none⟩ = some (.int .i64 ((rd_T36 l2 x7_2).f1.f0)) ∧ w'.cell? ⟨(ad257.add ((x7_2).toNat * 6)).block, (ad257.add ((x7_2).toNat * 6)).off + 5, none⟩ = some (.int .i64 ((rd_T36 l2 x7_2).f1.f1))) (ds := []) (bt 38 0) (by kernel_rfl) rfl rfl ⟨bcl BK255 0, bcl BK255 1, bcl BK255 2, ((HB.out.cell (World.block_lt_of_cell? w _ hw257_0)).trans hw257_0), ((HB.out.cell (World.block_lt_of_cell? w _ hw257_1)).trans hw257_1), ((HB.out.cell (World.block_lt_of_cell? w _ hw257_2)).trans hw257_2), ((HB.out.cell (World.block_lt_of_cell? w _ hw257_3)).trans hw257_3), ((HB.out.cell (World.block_lt_of_cell? w _ hw257_4)).trans hw257_4), ((HB.out.cell (World.block_lt_of_cell? w _ hw257_5)).trans hw257_5), ((HB.out.cell (World.block_lt_of_cell? w _ hw259_0)).trans hw259_0), ((HB.out.cell (World.block_lt_of_cell? w _ hw259_1)).trans hw259_1), ((HB.out.cell (World.block_lt_of_cell? w _ hw259_2)).trans hw259_2), ((HB.out.cell (World.block_lt_of_cell? w _ hw259_3)).trans hw259_3), ((HB.out.cell (World.block_lt_of_cell? w _ hw259_4)).trans hw259_4), ((HB.out.cell (World.block_lt_of_cell? w _ hw259_5)).trans hw259_5), ((HB.out.cell (World.block_lt_of_cell? w _ hw266_0)).trans hw266_0), ((HB.out.cell (World.block_lt_of_cell? w _ hw266_1)).trans hw266_1), ((HB.out.cell (World.block_lt_of_cell? w _ hw266_2)).trans hw266_2), ((HB.out.cell (World.block_lt_of_cell? w _ hw266_3)).trans hw266_3), ((HB.out.cell (World.block_lt_of_cell? w _ hw266_4)).trans hw266_4), ((HB.out.cell (World.block_lt_of_cell? w _ hw266_5)).trans hw266_5)⟩ (fun hHeld => ?_); refine with_tabW spec_IsGroup.tab6 spec_IsGroup.bits6 (fun HT_ HW_ => ?_)
          generalize wr.drew = w19 at BK255 HB hx257_0 hx257_1 hx257_2 hx257_3 hx257_4 hx257_5 hx259_0 hx259_1 hx259_2 hx259_3 hx259_4 hx259_5 hx266_0 hx266_1 hx266_2 hx266_3 hx266_4 hx266_5 hHeld ⊢
          refine pu 0 (some 25) (bt 38 1) HT_ ?_
          refine pu 2 (some 27) #[true, false, true, false, false, false, false, false, false, false, false, false, false, false, false, false, false, false, false, false, false, false, false, false, false, false, false, false, false, false, false, false, false, false, false, false, false, false] HT_ ?_
          refine pu 3 (some 28) #[true, false, true, true, false, false, false, false, false, false, false, false, false, false, false, false, false, false, false, false, false, false, false, false, false, false, false, false, false, false, false, false, false, false, false, false, false, false] HT_ ?_
          refine pu 4 (some 29) #[true, false, true, true, true, false, false, false, false, false, false, false, false, false, false, false, false, false, false, false, false, false, false, false, false, false, false, false, false, false, false, false, false, false, false, false, false, false] HT_ ?_
          refine ta 1 (some 26) (bt 38 5) HT_ HW_ hHeld ?_
          refine ta 5 (some 30) (bt 38 6) HT_ HW_ hHeld ?_
          refine one_ (i := 6) (N := some 31) (bt 38 7) rfl rfl (one_of HT_.out (by kernel_rfl)) (by decide) (fun K hK => ?_)
          refine goes_ Try.func11 (by kernel_rfl) rfl #[.int .i64 a0, .agg #[.int .i64 a1_0, .int .i64 a1_1, .int .i64 a1_2], .agg #[.int .i64 ((rd_T36 l2 x7_2).f0.f0), .int .i64 ((rd_T36 l2 x7_2).f0.f1), .int .i64 ((rd_T36 l2 x7_2).f0.f2), .int .i64 ((rd_T36 l2 x7_2).f0.f3), .int .i64 ((rd_T36 l2 x7_2).f1.f0), .int .i64 ((rd_T36 l2 x7_2).f1.f1)]] (by rfl) rfl rfl (by (try simp only [List.map_toArray, List.map_cons, List.map_nil]); first | done | rfl | (simp only [List.length_drop, List.length_take]; rfl)) ?_
          with_reducible refine (spec_IsSuitable.calls k2 a0 a1_0 a1_1 a1_2 ((rd_T36 l2 x7_2).f0.f0) ((rd_T36 l2 x7_2).f0.f1) ((rd_T36 l2 x7_2).f0.f2) ((rd_T36 l2 x7_2).f0.f3) ((rd_T36 l2 x7_2).f1.f0) ((rd_T36 l2 x7_2).f1.f1) true _ A15.out).mono ?_
          rintro e w20 ⟨rfl, hb⟩
          refine ⟨_, rfl, ?_⟩
          replace BK255 := Aside0.mk (bbl BK255 hb)
          replace HB := Aside0.mk (bst1 HB GE255 hb)
          (try clear hb)
          (try clear hb2)
          (try clear hk)
          (try clear hi)
          refine hK.out _ _ ⟨bcl BK255 0, bcl BK255 1, bcl BK255 2, ((HB.out.cell (World.block_lt_of_cell? w _ hw257_0)).trans hw257_0), ((HB.out.cell (World.block_lt_of_cell? w _ hw257_1)).trans hw257_1), ((HB.out.cell (World.block_lt_of_cell? w _ hw257_2)).trans hw257_2), ((HB.out.cell (World.block_lt_of_cell? w _ hw257_3)).trans hw257_3), ((HB.out.cell (World.block_lt_of_cell? w _ hw257_4)).trans hw257_4), ((HB.out.cell (World.block_lt_of_cell? w _ hw257_5)).trans hw257_5), ((HB.out.cell (World.block_lt_of_cell? w _ hw259_0)).trans hw259_0), ((HB.out.cell (World.block_lt_of_cell? w _ hw259_1)).trans hw259_1), ((HB.out.cell (World.block_lt_of_cell? w _ hw259_2)).trans hw259_2), ((HB.out.cell (World.block_lt_of_cell? w _ hw259_3)).trans hw259_3), ((HB.out.cell (World.block_lt_of_cell? w _ hw259_4)).trans hw259_4), ((HB.out.cell (World.block_lt_of_cell? w _ hw259_5)).trans hw259_5), ((HB.out.cell (World.block_lt_of_cell? w _ hw266_0)).trans hw266_0), ((HB.out.cell (World.block_lt_of_cell? w _ hw266_1)).trans hw266_1), ((HB.out.cell (World.block_lt_of_cell? w _ hw266_2)).trans hw266_2), ((HB.out.cell (World.block_lt_of_cell? w _ hw266_3)).trans hw266_3), ((HB.out.cell (World.block_lt_of_cell? w _ hw266_4)).trans hw266_4), ((HB.out.cell (World.block_lt_of_cell? w _ hw266_5)).trans hw266_5)⟩ (fun hHeld => ?_)
          clear hK K
          refine norm_ (a' := ?_) ?_ ?_
          rotate_left
          ·show Act.put _ (some 31) _ = _
           simp only [Act.put, sA, sB, sC, i64_w, i32_w]
           rfl
          refine pu 7 (some 32) (bt 38 8) HT_ ?_
          refine pu 8 (some 33) (bt 38 9) HT_ ?_
          refine pu 10 (some 35) #[true, true, true, true, true, true, true, true, true, false, true, false, false, false, false, false, false, false, false, false, false, false, false, false, false, false, false, false, false, false, false, false, false, false, false, false, false, false] HT_ ?_
          refine pu 11 (some 36) #[true, true, true, true, true, true, true, true, true, false, true, true, false, false, false, false, false, false, false, false, false, false, false, false, false, false, false, false, false, false, false, false, false, false, false, false, false, false] HT_ ?_
          refine pu 12 (some 37) #[true, true, true, true, true, true, true, true, true, false, true, true, true, false, false, false, false, false, false, false, false, false, false, false, false, false, false, false, false, false, false, false, false, false, false, false, false, false] HT_ ?_
          refine pu 15 (some 40) #[true, true, true, true, true, true, true, true, true, false, true, true, true, false, false, true, false, false, false, false, false, false, false, false, false, false, false, false, false, false, false, false, false, false, false, false, false, false] HT_ ?_
          refine pu 16 (some 41) #[true, true, true, true, true, true, true, true, true, false, true, true, true, false, false, true, true, false, false, false, false, false, false, false, false, false, false, false, false, false, false, false, false, false, false, false, false, false] HT_ ?_
          refine pu 17 (some 42) #[true, true, true, true, true, true, true, true, true, false, true, true, true, false, false, true, true, true, false, false, false, false, false, false, false, false, false, false, false, false, false, false, false, false, false, false, false, false] HT_ ?_
          refine ta 9 (some 34) #[true, true, true, true, true, true, true, true, true, true, true, true, true, false, false, true, true, true, false, false, false, false, false, false, false, false, false, false, false, false, false, false, false, false, false, false, false, false] HT_ HW_ hHeld ?_
          refine ta 13 (some 38) #[true, true, true, true, true, true, true, true, true, true, true, true, true, true, false, true, true, true, false, false, false, false, false, false, false, false, false, false, false, false, false, false, false, false, false, false, false, false] HT_ HW_ hHeld ?_
          refine ta 18 (some 43) #[true, true, true, true, true, true, true, true, true, true, true, true, true, true, false, true, true, true, true, false, false, false, false, false, false, false, false, false, false, false, false, false, false, false, false, false, false, false] HT_ HW_ hHeld ?_
          refine one_ (i := 14) (N := some 39) (bt 38 19) rfl rfl (one_of HT_.out (by kernel_rfl)) (by decide) (fun K hK => ?_)
          refine goes_ Try.func46 (by kernel_rfl) rfl #[.agg #[.int .i64 a1_0, .int .i64 a1_1, .int .i64 a1_2], .agg #[.int .i64 ((rd_T36 l2 x7_2).f0.f0), .int .i64 ((rd_T36 l2 x7_2).f0.f1), .int .i64 ((rd_T36 l2 x7_2).f0.f2), .int .i64 ((rd_T36 l2 x7_2).f0.f3), .int .i64 ((rd_T36 l2 x7_2).f1.f0), .int .i64 ((rd_T36 l2 x7_2).f1.f1)]] (by rfl) rfl rfl (by (try simp only [List.map_toArray, List.map_cons, List.map_nil]); first | done | rfl | (simp only [List.length_drop, List.length_take]; rfl)) ?_
          with_reducible refine (spec_l06Reduce.calls a1_0 a1_1 a1_2 ((rd_T36 l2 x7_2).f0.f0) ((rd_T36 l2 x7_2).f0.f1) ((rd_T36 l2 x7_2).f0.f2) ((rd_T36 l2 x7_2).f0.f3) ((rd_T36 l2 x7_2).f1.f0) ((rd_T36 l2 x7_2).f1.f1) t260 t261 t262 t263 t264 t265 _ A17.out).mono ?_
          rintro e w21 ⟨rfl, hb⟩
          refine ⟨_, rfl, ?_⟩
          replace BK255 := Aside0.mk (bbl BK255 hb)
          replace HB := Aside0.mk (bst1 HB GE255 hb)
          (try clear hb)
          (try clear hb2)
          (try clear hk)
          (try clear hi)
          refine hK.out _ _ ⟨bcl BK255 0, bcl BK255 1, bcl BK255 2, ((HB.out.cell (World.block_lt_of_cell? w _ hw257_0)).trans hw257_0), ((HB.out.cell (World.block_lt_of_cell? w _ hw257_1)).trans hw257_1), ((HB.out.cell (World.block_lt_of_cell? w _ hw257_2)).trans hw257_2), ((HB.out.cell (World.block_lt_of_cell? w _ hw257_3)).trans hw257_3), ((HB.out.cell (World.block_lt_of_cell? w _ hw257_4)).trans hw257_4), ((HB.out.cell (World.block_lt_of_cell? w _ hw257_5)).trans hw257_5), ((HB.out.cell (World.block_lt_of_cell? w _ hw259_0)).trans hw259_0), ((HB.out.cell (World.block_lt_of_cell? w _ hw259_1)).trans hw259_1), ((HB.out.cell (World.block_lt_of_cell? w _ hw259_2)).trans hw259_2), ((HB.out.cell (World.block_lt_of_cell? w _ hw259_3)).trans hw259_3), ((HB.out.cell (World.block_lt_of_cell? w _ hw259_4)).trans hw259_4), ((HB.out.cell (World.block_lt_of_cell? w _ hw259_5)).trans hw259_5), ((HB.out.cell (World.block_lt_of_cell? w _ hw266_0)).trans hw266_0), ((HB.out.cell (World.block_lt_of_cell? w _ hw266_1)).trans hw266_1), ((HB.out.cell (World.block_lt_of_cell? w _ hw266_2)).trans hw266_2), ((HB.out.cell (World.block_lt_of_cell? w _ hw266_3)).trans hw266_3), ((HB.out.cell (World.block_lt_of_cell? w _ hw266_4)).trans hw266_4), ((HB.out.cell (World.block_lt_of_cell? w _ hw266_5)).trans hw266_5)⟩ (fun hHeld => ?_)
          clear hK K
          refine norm_ (a' := ?_) ?_ ?_
          rotate_left
          ·show Act.put _ (some 39) _ = _
           simp only [Act.put, sA, sB, sC, i64_w, i32_w]
           rfl
          refine pu 19 (some 44) (bt 38 20) HT_ ?_
          refine pu 20 (some 45) (bt 38 21) HT_ ?_
          refine pu 21 (some 46) (bt 38 22) HT_ ?_
          refine pf 22 (some 47) (bt 38 23) HT_ ?_
          refine pf 23 (some 48) (bt 38 24) HT_ ?_
          refine pf 24 (some 49) (bt 38 25) HT_ ?_
          refine pf 25 (some 50) (bt 38 26) HT_ ?_
          refine pf 26 (some 51) (bt 38 27) HT_ ?_
          refine pf 27 (some 52) (bt 38 28) HT_ ?_
          refine pf 28 (some 53) (bt 38 29) HT_ ?_
          refine pf 29 (some 54) (bt 38 30) HT_ ?_
          refine pf 30 (some 55) (bt 38 31) HT_ ?_
          refine pf 31 (some 56) (bt 38 32) HT_ ?_
          refine pf 32 (some 57) (bt 38 33) HT_ ?_
          refine pf 33 (some 58) (bt 38 34) HT_ ?_
          refine pf 34 (some 59) (bt 38 35) HT_ ?_
          refine pf 35 (some 60) (bt 38 36) HT_ ?_
          refine pf 36 (some 61) (bt 38 37) HT_ ?_
          refine pu 37 (some 62) (bt 38 38) HT_ ?_
          refine done_ (done_of HT_.out (by kernel_rfl)) ?_
          try go_wp2
          go_ret
          exact ⟨by first | rfl | (simp [errW_none, errW_some] <;> rfl) | (simp [*, errW_none, errW_some] <;> rfl), bbw1 HB GE255⟩
         ·rw [if_neg c18] at H
          have c18b0 : ((!(t260 == ((rd_T36 l2 x7_2).f0.f0)) || (!(t261 == ((rd_T36 l2 x7_2).f0.f1)) || (!(t262 == ((rd_T36 l2 x7_2).f0.f2)) || (!(t263 == ((rd_T36 l2 x7_2).f0.f3)))))) || ((!(t264 == ((rd_T36 l2 x7_2).f1.f0)) || (!(t265 == ((rd_T36 l2 x7_2).f1.f1)))))) = false := by simpa using c18
          clear c18
          by_cases c22 : x7_2 > 0
          ·rw [if_pos c22] at H
           have c22b0 : decide (0 < x7_2) = true := decide_eq_true c22
           clear c22
           obtain ⟨ji23, hji23⟩ : ∃ j_ : Int, (wrap64 (x7_2 - 1)) = j_ := ⟨_, rfl⟩
           replace H : (if 0 ≤ (ji23) then (if (ji23) < (l2.length : Int) then ((spec_l05Less.f k2 ((rd_T36 l2 (ji23)).f0.f0) ((rd_T36 l2 (ji23)).f0.f1) ((rd_T36 l2 (ji23)).f0.f2) ((rd_T36 l2 (ji23)).f0.f3) ((rd_T36 l2 (ji23)).f1.f0) ((rd_T36 l2 (ji23)).f1.f1) ((rd_T36 l2 x7_2).f0.f0) ((rd_T36 l2 x7_2).f0.f1) ((rd_T36 l2 x7_2).f0.f2) ((rd_T36 l2 x7_2).f0.f3) ((rd_T36 l2 x7_2).f1.f0) ((rd_T36 l2 x7_2).f1.f1)).bind fun t269 => (if t269 = true then (spec_IsGroup.l0 k2 a0 l2 (wrap64 (x7_2 + 1)) a1_0 a1_1 a1_2) else (some false))) else (none)) else (none)) = some r := by first | (rw [hji23] at H; first | done | exact H) | (simp only [hji23] at H ⊢; exact H)
           (try rw [hji23] at A15)
           (try rw [hji23] at A17)
           have hji23w : (IntKind.i64.wrap (x7_2 - 1)) = ji23 := (i64_w _).trans hji23
           by_cases c24 : 0 ≤ (ji23)
           ·rw [if_pos c24] at H
            have c24b0 : decide (0 ≤ (ji23)) = true := decide_eq_true c24
            clear c24
            by_cases c25 : (ji23) < (l2.length : Int)
            ·rw [if_pos c25] at H
             have c25b0 : decide ((ji23) < (l2.length : Int)) = true := decide_eq_true c25
             clear c25
             replace H := Option.bind_eq_some_iff.mp H
             obtain ⟨t269, A260, H⟩ := H
             replace H : (if t269 = true then (spec_IsGroup.l0 k2 a0 l2 (wrap64 (x7_2 + 1)) a1_0 a1_1 a1_2) else (some false)) = some r := H
             have A26 := Aside0.mk A260
             clear A260
             by_cases c27 : t269 = true
             ·subst c27
              have H1 : (spec_IsGroup.l0 k2 a0 l2 (wrap64 (x7_2 + 1)) a1_0 a1_1 a1_2) = some r := by rw [if_pos rfl] at H; first | done | exact H
              clear H
              have H := H1
              clear H1
              have H' := Aside0.mk H
              clear H
              try go_wp2
              replace BK255 := Aside0.mk (blk_drew BK255.out)
              replace HB := Aside0.mk (below_drew1 HB.out)
              have p257 : 0 ≤ (x7_2 : Int) := of_decide_eq_true (by first | (with_reducible assumption) | assumption)
              have q257 : x7_2 < (l2.length : Int) := of_decide_eq_true (by first | (with_reducible assumption) | assumption)
              obtain ⟨ad257, e257, hx257_0, hx257_1, hx257_2, hx257_3, hx257_4, hx257_5⟩ := at_T36 HR2.out x7_2 p257 q257
              have hw257_5 := hx257_5
              have hw257_4 := hx257_4
              have hw257_3 := hx257_3
              have hw257_2 := hx257_2
              have hw257_1 := hx257_1
              have hw257_0 := hx257_0
              cases e257
              replace hx257_0 := (HB.out.cell (World.block_lt_of_cell? w _ hx257_0)).trans hx257_0
              replace hx257_1 := (HB.out.cell (World.block_lt_of_cell? w _ hx257_1)).trans hx257_1
              replace hx257_2 := (HB.out.cell (World.block_lt_of_cell? w _ hx257_2)).trans hx257_2
              replace hx257_3 := (HB.out.cell (World.block_lt_of_cell? w _ hx257_3)).trans hx257_3
              replace hx257_4 := (HB.out.cell (World.block_lt_of_cell? w _ hx257_4)).trans hx257_4
              replace hx257_5 := (HB.out.cell (World.block_lt_of_cell? w _ hx257_5)).trans hx257_5
              replace p257 := eq_true p257
              replace q257 := eq_true q257
              have p259 : 0 ≤ (x7_2 : Int) := of_decide_eq_true (by first | (with_reducible assumption) | assumption)
              have q259 : x7_2 < (l2.length : Int) := of_decide_eq_true (by first | (with_reducible assumption) | assumption)
              obtain ⟨ad259, e259, hx259_0, hx259_1, hx259_2, hx259_3, hx259_4, hx259_5⟩ := at_T36 HR2.out x7_2 p259 q259
              have hw259_5 := hx259_5
              have hw259_4 := hx259_4
              have hw259_3 := hx259_3
              have hw259_2 := hx259_2
              have hw259_1 := hx259_1
              have hw259_0 := hx259_0
              obtain rfl : ad257 = ad259 := (by injection e259)
              replace hx259_0 := (HB.out.cell (World.block_lt_of_cell? w _ hx259_0)).trans hx259_0
              replace hx259_1 := (HB.out.cell (World.block_lt_of_cell? w _ hx259_1)).trans hx259_1
              replace hx259_2 := (HB.out.cell (World.block_lt_of_cell? w _ hx259_2)).trans hx259_2
              replace hx259_3 := (HB.out.cell (World.block_lt_of_cell? w _ hx259_3)).trans hx259_3
              replace hx259_4 := (HB.out.cell (World.block_lt_of_cell? w _ hx259_4)).trans hx259_4
              replace hx259_5 := (HB.out.cell (World.block_lt_of_cell? w _ hx259_5)).trans hx259_5
              replace p259 := eq_true p259
              replace q259 := eq_true q259
              have p266 : 0 ≤ (x7_2 : Int) := of_decide_eq_true (by first | (with_reducible assumption) | assumption)
              have q266 : x7_2 < (l2.length : Int) := of_decide_eq_true (by first | (with_reducible assumption) | assumption)
              obtain ⟨ad266, e266, hx266_0, hx266_1, hx266_2, hx266_3, hx266_4, hx266_5⟩ := at_T36 HR2.out x7_2 p266 q266
              have hw266_5 := hx266_5
              have hw266_4 := hx266_4
              have hw266_3 := hx266_3
              have hw266_2 := hx266_2
              have hw266_1 := hx266_1
              have hw266_0 := hx266_0
              obtain rfl : ad257 = ad266 := (by injection e266)
              replace hx266_0 := (HB.out.cell (World.block_lt_of_cell? w _ hx266_0)).trans hx266_0
              replace hx266_1 := (HB.out.cell (World.block_lt_of_cell? w _ hx266_1)).trans hx266_1
              replace hx266_2 := (HB.out.cell (World.block_lt_of_cell? w _ hx266_2)).trans hx266_2
              replace hx266_3 := (HB.out.cell (World.block_lt_of_cell? w _ hx266_3)).trans hx266_3
              replace hx266_4 := (HB.out.cell (World.block_lt_of_cell? w _ hx266_4)).trans hx266_4
              replace hx266_5 := (HB.out.cell (World.block_lt_of_cell? w _ hx266_5)).trans hx266_5
              replace p266 := eq_true p266
              replace q266 := eq_true q266
              have p267 : 0 ≤ ((ji23) : Int) := of_decide_eq_true (by first | (with_reducible assumption) | assumption)
              have q267 : (ji23) < (l2.length : Int) := of_decide_eq_true (by first | (with_reducible assumption) | assumption)
              obtain ⟨ad267, e267, hx267_0, hx267_1, hx267_2, hx267_3, hx267_4, hx267_5⟩ := at_T36 HR2.out (ji23) p267 q267
              have hw267_5 := hx267_5
              have hw267_4 := hx267_4
              have hw267_3 := hx267_3
              have hw267_2 := hx267_2
              have hw267_1 := hx267_1
              have hw267_0 := hx267_0
              obtain rfl : ad257 = ad267 := (by injection e267)
              replace hx267_0 := (HB.out.cell (World.block_lt_of_cell? w _ hx267_0)).trans hx267_0
              replace hx267_1 := (HB.out.cell (World.block_lt_of_cell? w _ hx267_1)).trans hx267_1
              replace hx267_2 := (HB.out.cell (World.block_lt_of_cell? w _ hx267_2)).trans hx267_2
              replace hx267_3 := (HB.out.cell (World.block_lt_of_cell? w _ hx267_3)).trans hx267_3
              replace hx267_4 := (HB.out.cell (World.block_lt_of_cell? w _ hx267_4)).trans hx267_4
              replace hx267_5 := (HB.out.cell (World.block_lt_of_cell? w _ hx267_5)).trans hx267_5
              replace p267 := eq_true p267
              replace q267 := eq_true q267
              have p268 : 0 ≤ (x7_2 : Int) := of_decide_eq_true (by first | (with_reducible assumption) | assumption)
              have q268 : x7_2 < (l2.length : Int) := of_decide_eq_true (by first | (with_reducible assumption) | assumption)
              obtain ⟨ad268, e268, hx268_0, hx268_1, hx268_2, hx268_3, hx268_4, hx268_5⟩ := at_T36 HR2.out x7_2 p268 q268
              have hw268_5 := hx268_5
              have hw268_4 := hx268_4
              have hw268_3 := hx268_3
              have hw268_2 := hx268_2
              have hw268_1 := hx268_1
              have hw268_0 := hx268_0
              obtain rfl : ad257 = ad268 := (by injection e268)
              replace hx268_0 := (HB.out.cell (World.block_lt_of_cell? w _ hx268_0)).trans hx268_0
              replace hx268_1 := (HB.out.cell (World.block_lt_of_cell? w _ hx268_1)).trans hx268_1
              replace hx268_2 := (HB.out.cell (World.block_lt_of_cell? w _ hx268_2)).trans hx268_2
              replace hx268_3 := (HB.out.cell (World.block_lt_of_cell? w _ hx268_3)).trans hx268_3
              replace hx268_4 := (HB.out.cell (World.block_lt_of_cell? w _ hx268_4)).trans hx268_4
              replace hx268_5 := (HB.out.cell (World.block_lt_of_cell? w _ hx268_5)).trans hx268_5
              replace p268 := eq_true p268
              replace q268 := eq_true q268
              refine start_ (n := 38) (S := fun w' => w'.cell? ⟨gb255, 0, none⟩ = some (.int .i64 a1_0) ∧ w'.cell? ⟨gb255, 1, none⟩ = some (.int .i64 a1_1) ∧ w'.cell? ⟨gb255, 2, none⟩ = some (.int .i64 a1_2) ∧ w'.cell? (ad257.add ((x7_2).toNat * 6)) = some (.int .i64 ((rd_T36 l2 x7_2).f0.f0)) ∧ w'.cell? ⟨(ad257.add ((x7_2).toNat * 6)).block, (ad257.add ((x7_2).toNat * 6)).off + 1, none⟩ = some (.int .i64 ((rd_T36 l2 x7_2).f0.f1)) ∧ w'.cell? ⟨(ad257.add ((x7_2).toNat * 6)).block, (ad257.add ((x7_2).toNat * 6)).off + 2, none⟩ = some (.int .i64 ((rd_T36 l2 x7_2).f0.f2)) ∧ w'.cell? ⟨(ad257.add ((x7_2).toNat * 6)).block, (ad257.add ((x7_2).toNat * 6)).off + 3, none⟩ = some (.int .i64 ((rd_T36 l2 x7_2).f0.f3)) ∧ w'.cell? ⟨(ad257.add ((x7_2).toNat * 6)).block, (ad257.add ((x7_2).toNat * 6)).off + 4, none⟩ = some (.int .i64 ((rd_T36 l2 x7_2).f1.f0)) ∧ w'.cell? ⟨(ad257.add ((x7_2).toNat * 6)).block, (ad257.add ((x7_2).toNat * 6)).off + 5, none⟩ = some (.int .i64 ((rd_T36 l2 x7_2).f1.f1)) ∧ w'.cell? (ad257.add ((x7_2).toNat * 6)) = some (.int .i64 ((rd_T36 l2 x7_2).f0.f0)) ∧ w'.cell? ⟨(ad257.add ((x7_2).toNat * 6)).block, (ad257.add ((x7_2).toNat * 6)).off + 1, none⟩ = some (.int .i64 ((rd_T36 l2 x7_2).f0.f1)) ∧ w'.cell? ⟨(ad257.add ((x7_2).toNat * 6)).block, (ad257.add ((x7_2).toNat * 6)).off + 2, none⟩ = some (.int .i64 ((rd_T36 l2 x7_2).f0.f2)) ∧ w'.cell? ⟨(ad257.add ((x7_2).toNat * 6)).block, (ad257.add ((x7_2).toNat * 6)).off + 3, none⟩ = some (.int .i64 ((rd_T36 l2 x7_2).f0.f3)) ∧ w'.cell? ⟨(ad257.add ((x7_2).toNat * 6)).block, (ad257.add ((x7_2).toNat * 6)).off + 4, none⟩ = some (.int .i64 ((rd_T36 l2 x7_2).f1.f0)) ∧ w'.cell? ⟨(ad257.add ((x7_2).toNat * 6)).block, (ad257.add ((x7_2).toNat * 6)).off + 5, none⟩ = some (.int .i64 ((rd_T36 l2 x7_2).f1.f1)) ∧ w'.cell? (ad257.add ((x7_2).toNat * 6)) = some (.int .i64 ((rd_T36 l2 x7_2).f0.f0)) ∧ w'.cell? ⟨(ad257.add ((x7_2).toNat * 6)).block, (ad257.add ((x7_2).toNat * 6)).off + 1, none⟩ = some (.int .i64 ((rd_T36 l2 x7_2).f0.f1)) ∧ w'.cell? ⟨(ad257.add ((x7_2).toNat * 6)).block, (ad257.add ((x7_2).toNat * 6)).off + 2, none⟩ = some (.int .i64 ((rd_T36 l2 x7_2).f0.f2)) ∧ w'.cell? ⟨(ad257.add ((x7_2).toNat * 6)).block, (ad257.add ((x7_2).toNat * 6)).off + 3, none⟩ = some (.int .i64 ((rd_T36 l2 x7_2).f0.f3)) ∧ w'.cell? ⟨(ad257.add ((x7_2).toNat * 6)).block, (ad257.add ((x7_2).toNat * 6)).off + 4, none⟩ = some (.int .i64 ((rd_T36 l2 x7_2).f1.f0)) ∧ w'.cell? ⟨(ad257.add ((x7_2).toNat * 6)).block, (ad257.add ((x7_2).toNat * 6)).off + 5, none⟩ = some (.int .i64 ((rd_T36 l2 x7_2).f1.f1)) ∧ w'.cell? (ad257.add (((ji23)).toNat * 6)) = some (.int .i64 ((rd_T36 l2 (ji23)).f0.f0)) ∧ w'.cell? ⟨(ad257.add (((ji23)).toNat * 6)).block, (ad257.add (((ji23)).toNat * 6)).off + 1, none⟩ = some (.int .i64 ((rd_T36 l2 (ji23)).f0.f1)) ∧ w'.cell? ⟨(ad257.add (((ji23)).toNat * 6)).block, (ad257.add (((ji23)).toNat * 6)).off + 2, none⟩ = some (.int .i64 ((rd_T36 l2 (ji23)).f0.f2)) ∧ w'.cell? ⟨(ad257.add (((ji23)).toNat * 6)).block, (ad257.add (((ji23)).toNat * 6)).off + 3, none⟩ = some (.int .i64 ((rd_T36 l2 (ji23)).f0.f3)) ∧ w'.cell? ⟨(ad257.add (((ji23)).toNat * 6)).block, (ad257.add (((ji23)).toNat * 6)).off + 4, none⟩ = some (.int .i64 ((rd_T36 l2 (ji23)).f1.f0)) ∧ w'.cell? ⟨(ad257.add (((ji23)).toNat * 6)).block, (ad257.add (((ji23)).toNat * 6)).off + 5, none⟩ = some (.int .i64 ((rd_T36 l2 (ji23)).f1.f1)) ∧ w'.cell? (ad257.add ((x7_2).toNat * 6)) = some (.int .i64 ((rd_T36 l2 x7_2).f0.f0)) ∧ w'.cell? ⟨(ad257.add ((x7_2).toNat * 6)).block, (ad257.add ((x7_2).toNat * 6)).off + 1, none⟩ = some (.int .i64 ((rd_T36 l2 x7_2).f0.f1)) ∧ w'.cell? ⟨(ad257.add ((x7_2).toNat * 6)).block, (ad257.add ((x7_2).toNat * 6)).off + 2, none⟩ = some (.int .i64 ((rd_T36 l2 x7_2).f0.f2)) ∧ w'.cell? ⟨(ad257.add ((x7_2).toNat * 6)).block, (ad257.add ((x7_2).toNat * 6)).off + 3, none⟩ = some (.int .i64 ((rd_T36 l2 x7_2).f0.f3)) ∧ w'.cell? ⟨(ad257.add ((x7_2).toNat * 6)).block, (ad257.add ((x7_2).toNat * 6)).off + 4, none⟩ = some (.int .i64 ((rd_T36 l2 x7_2).f1.f0)) ∧ w'.cell? ⟨(ad257.add ((x7_2).toNat * 6)).block, (ad257.add ((x7_2).toNat * 6)).off + 5, none⟩ = some (.int .i64 ((rd_T36 l2 x7_2).f1.f1))) (ds := []) (bt 38 0) (by kernel_rfl) rfl rfl ⟨bcl BK255 0, bcl BK255 1, bcl BK255 2, ((HB.out.cell (World.block_lt_of_cell? w _ hw257_0)).trans hw257_0), ((HB.out.cell (World.block_lt_of_cell? w _ hw257_1)).trans hw257_1), ((HB.out.cell (World.block_lt_of_cell? w _ hw257_2)).trans hw257_2), ((HB.out.cell (World.block_lt_of_cell? w _ hw257_3)).trans hw257_3), ((HB.out.cell (World.block_lt_of_cell? w _ hw257_4)).trans hw257_4), ((HB.out.cell (World.block_lt_of_cell? w _ hw257_5)).trans hw257_5), ((HB.out.cell (World.block_lt_of_cell? w _ hw259_0)).trans hw259_0), ((HB.out.cell (World.block_lt_of_cell? w _ hw259_1)).trans hw259_1), ((HB.out.cell (World.block_lt_of_cell? w _ hw259_2)).trans hw259_2), ((HB.out.cell (World.block_lt_of_cell? w _ hw259_3)).trans hw259_3), ((HB.out.cell (World.block_lt_of_cell? w _ hw259_4)).trans hw259_4), ((HB.out.cell (World.block_lt_of_cell? w _ hw259_5)).trans hw259_5), ((HB.out.cell (World.block_lt_of_cell? w _ hw266_0)).trans hw266_0), ((HB.out.cell (World.block_lt_of_cell? w _ hw266_1)).trans hw266_1), ((HB.out.cell (World.block_lt_of_cell? w _ hw266_2)).trans hw266_2), ((HB.out.cell (World.block_lt_of_cell? w _ hw266_3)).trans hw266_3), ((HB.out.cell (World.block_lt_of_cell? w _ hw266_4)).trans hw266_4), ((HB.out.cell (World.block_lt_of_cell? w _ hw266_5)).trans hw266_5), ((HB.out.cell (World.block_lt_of_cell? w _ hw267_0)).trans hw267_0), ((HB.out.cell (World.block_lt_of_cell? w _ hw267_1)).trans hw267_1), ((HB.out.cell (World.block_lt_of_cell? w _ hw267_2)).trans hw267_2), ((HB.out.cell (World.block_lt_of_cell? w _ hw267_3)).trans hw267_3), ((HB.out.cell (World.block_lt_of_cell? w _ hw267_4)).trans hw267_4), ((HB.out.cell (World.block_lt_of_cell? w _ hw267_5)).trans hw267_5), ((HB.out.cell (World.block_lt_of_cell? w _ hw268_0)).trans hw268_0), ((HB.out.cell (World.block_lt_of_cell? w _ hw268_1)).trans hw268_1), ((HB.out.cell (World.block_lt_of_cell? w _ hw268_2)).trans hw268_2), ((HB.out.cell (World.block_lt_of_cell? w _ hw268_3)).trans hw268_3), ((HB.out.cell (World.block_lt_of_cell? w _ hw268_4)).trans hw268_4), ((HB.out.cell (World.block_lt_of_cell? w _ hw268_5)).trans hw268_5)⟩ (fun hHeld => ?_); refine with_tabW spec_IsGroup.tab6 spec_IsGroup.bits6 (fun HT_ HW_ => ?_)
              generalize wr.drew = w28 at BK255 HB hx257_0 hx257_1 hx257_2 hx257_3 hx257_4 hx257_5 hx259_0 hx259_1 hx259_2 hx259_3 hx259_4 hx259_5 hx266_0 hx266_1 hx266_2 hx266_3 hx266_4 hx266_5 hx267_0 hx267_1 hx267_2 hx267_3 hx267_4 hx267_5 hx268_0 hx268_1 hx268_2 hx268_3 hx268_4 hx268_5 hHeld ⊢
              refine pu 0 (some 25) (bt 38 1) HT_ ?_
              refine pu 2 (some 27) #[true, false, true, false, false, false, false, false, false, false, false, false, false, false, false, false, false, false, false, false, false, false, false, false, false, false, false, false, false, false, false, false, false, false, false, false, false, false] HT_ ?_
              refine pu 3 (some 28) #[true, false, true, true, false, false, false, false, false, false, false, false, false, false, false, false, false, false, false, false, false, false, false, false, false, false, false, false, false, false, false, false, false, false, false, false, false, false] HT_ ?_
              refine pu 4 (some 29) #[true, false, true, true, true, false, false, false, false, false, false, false, false, false, false, false, false, false, false, false, false, false, false, false, false, false, false, false, false, false, false, false, false, false, false, false, false, false] HT_ ?_
              refine ta 1 (some 26) (bt 38 5) HT_ HW_ hHeld ?_
              refine ta 5 (some 30) (bt 38 6) HT_ HW_ hHeld ?_
              refine one_ (i := 6) (N := some 31) (bt 38 7) rfl rfl (one_of HT_.out (by kernel_rfl)) (by decide) (fun K hK => ?_)
              refine goes_ Try.func11 (by kernel_rfl) rfl #[.int .i64 a0, .agg #[.int .i64 a1_0, .int .i64 a1_1, .int .i64 a1_2], .agg #[.int .i64 ((rd_T36 l2 x7_2).f0.f0), .int .i64 ((rd_T36 l2 x7_2).f0.f1), .int .i64 ((rd_T36 l2 x7_2).f0.f2), .int .i64 ((rd_T36 l2 x7_2).f0.f3), .int .i64 ((rd_T36 l2 x7_2).f1.f0), .int .i64 ((rd_T36 l2 x7_2).f1.f1)]] (by rfl) rfl rfl (by (try simp only [List.map_toArray, List.map_cons, List.map_nil]); first | done | rfl | (simp only [List.length_drop, List.length_take]; rfl)) ?_
              with_reducible refine (spec_IsSuitable.calls k2 a0 a1_0 a1_1 a1_2 ((rd_T36 l2 x7_2).f0.f0) ((rd_T36 l2 x7_2).f0.f1) ((rd_T36 l2 x7_2).f0.f2) ((rd_T36 l2 x7_2).f0.f3) ((rd_T36 l2 x7_2).f1.f0) ((rd_T36 l2 x7_2).f1.f1) true _ A15.out).mono ?_
              rintro e w29 ⟨rfl, hb⟩
              refine ⟨_, rfl, ?_⟩
              replace BK255 := Aside0.mk (bbl BK255 hb)
              replace HB := Aside0.mk (bst1 HB GE255 hb)
              (try clear hb)
              (try clear hb2)
              (try clear hk)
              (try clear hi)
              refine hK.out _ _ ⟨bcl BK255 0, bcl BK255 1, bcl BK255 2, ((HB.out.cell (World.block_lt_of_cell? w _ hw257_0)).trans hw257_0), ((HB.out.cell (World.block_lt_of_cell? w _ hw257_1)).trans hw257_1), ((HB.out.cell (World.block_lt_of_cell? w _ hw257_2)).trans hw257_2), ((HB.out.cell (World.block_lt_of_cell? w _ hw257_3)).trans hw257_3), ((HB.out.cell (World.block_lt_of_cell? w _ hw257_4)).trans hw257_4), ((HB.out.cell (World.block_lt_of_cell? w _ hw257_5)).trans hw257_5), ((HB.out.cell (World.block_lt_of_cell? w _ hw259_0)).trans hw259_0), ((HB.out.cell (World.block_lt_of_cell? w _ hw259_1)).trans hw259_1), ((HB.out.cell (World.block_lt_of_cell? w _ hw259_2)).trans hw259_2), ((HB.out.cell (World.block_lt_of_cell? w _ hw259_3)).trans hw259_3), ((HB.out.cell (World.block_lt_of_cell? w _ hw259_4)).trans hw259_4), ((HB.out.cell (World.block_lt_of_cell? w _ hw259_5)).trans hw259_5), ((HB.out.cell (World.block_lt_of_cell? w _ hw266_0)).trans hw266_0), ((HB.out.cell (World.block_lt_of_cell? w _ hw266_1)).trans hw266_1), ((HB.out.cell (World.block_lt_of_cell? w _ hw266_2)).trans hw266_2), ((HB.out.cell (World.block_lt_of_cell? w _ hw266_3)).trans hw266_3), ((HB.out.cell (World.block_lt_of_cell? w _ hw266_4)).trans hw266_4), ((HB.out.cell (World.block_lt_of_cell? w _ hw266_5)).trans hw266_5), ((HB.out.cell (World.block_lt_of_cell? w _ hw267_0)).trans hw267_0), ((HB.out.cell (World.block_lt_of_cell? w _ hw267_1)).trans hw267_1), ((HB.out.cell (World.block_lt_of_cell? w _ hw267_2)).trans hw267_2), ((HB.out.cell (World.block_lt_of_cell? w _ hw267_3)).trans hw267_3), ((HB.out.cell (World.block_lt_of_cell? w _ hw267_4)).trans hw267_4), ((HB.out.cell (World.block_lt_of_cell? w _ hw267_5)).trans hw267_5), ((HB.out.cell (World.block_lt_of_cell? w _ hw268_0)).trans hw268_0), ((HB.out.cell (World.block_lt_of_cell? w _ hw268_1)).trans hw268_1), ((HB.out.cell (World.block_lt_of_cell? w _ hw268_2)).trans hw268_2), ((HB.out.cell (World.block_lt_of_cell? w _ hw268_3)).trans hw268_3), ((HB.out.cell (World.block_lt_of_cell? w _ hw268_4)).trans hw268_4), ((HB.out.cell (World.block_lt_of_cell? w _ hw268_5)).trans hw268_5)⟩ (fun hHeld => ?_)
              clear hK K
              refine norm_ (a' := ?_) ?_ ?_
              rotate_left
              ·show Act.put _ (some 31) _ = _
               simp only [Act.put, sA, sB, sC, i64_w, i32_w]
               rfl
              refine pu 7 (some 32) (bt 38 8) HT_ ?_
              refine pu 8 (some 33) (bt 38 9) HT_ ?_
              refine pu 10 (some 35) #[true, true, true, true, true, true, true, true, true, false, true, false, false, false, false, false, false, false, false, false, false, false, false, false, false, false, false, false, false, false, false, false, false, false, false, false, false, false] HT_ ?_
              refine pu 11 (some 36) #[true, true, true, true, true, true, true, true, true, false, true, true, false, false, false, false, false, false, false, false, false, false, false, false, false, false, false, false, false, false, false, false, false, false, false, false, false, false] HT_ ?_
              refine pu 12 (some 37) #[true, true, true, true, true, true, true, true, true, false, true, true, true, false, false, false, false, false, false, false, false, false, false, false, false, false, false, false, false, false, false, false, false, false, false, false, false, false] HT_ ?_
              refine pu 15 (some 40) #[true, true, true, true, true, true, true, true, true, false, true, true, true, false, false, true, false, false, false, false, false, false, false, false, false, false, false, false, false, false, false, false, false, false, false, false, false, false] HT_ ?_
              refine pu 16 (some 41) #[true, true, true, true, true, true, true, true, true, false, true, true, true, false, false, true, true, false, false, false, false, false, false, false, false, false, false, false, false, false, false, false, false, false, false, false, false, false] HT_ ?_
              refine pu 17 (some 42) #[true, true, true, true, true, true, true, true, true, false, true, true, true, false, false, true, true, true, false, false, false, false, false, false, false, false, false, false, false, false, false, false, false, false, false, false, false, false] HT_ ?_
              refine ta 9 (some 34) #[true, true, true, true, true, true, true, true, true, true, true, true, true, false, false, true, true, true, false, false, false, false, false, false, false, false, false, false, false, false, false, false, false, false, false, false, false, false] HT_ HW_ hHeld ?_
              refine ta 13 (some 38) #[true, true, true, true, true, true, true, true, true, true, true, true, true, true, false, true, true, true, false, false, false, false, false, false, false, false, false, false, false, false, false, false, false, false, false, false, false, false] HT_ HW_ hHeld ?_
              refine ta 18 (some 43) #[true, true, true, true, true, true, true, true, true, true, true, true, true, true, false, true, true, true, true, false, false, false, false, false, false, false, false, false, false, false, false, false, false, false, false, false, false, false] HT_ HW_ hHeld ?_
              refine one_ (i := 14) (N := some 39) (bt 38 19) rfl rfl (one_of HT_.out (by kernel_rfl)) (by decide) (fun K hK => ?_)
              refine goes_ Try.func46 (by kernel_rfl) rfl #[.agg #[.int .i64 a1_0, .int .i64 a1_1, .int .i64 a1_2], .agg #[.int .i64 ((rd_T36 l2 x7_2).f0.f0), .int .i64 ((rd_T36 l2 x7_2).f0.f1), .int .i64 ((rd_T36 l2 x7_2).f0.f2), .int .i64 ((rd_T36 l2 x7_2).f0.f3), .int .i64 ((rd_T36 l2 x7_2).f1.f0), .int .i64 ((rd_T36 l2 x7_2).f1.f1)]] (by rfl) rfl rfl (by (try simp only [List.map_toArray, List.map_cons, List.map_nil]); first | done | rfl | (simp only [List.length_drop, List.length_take]; rfl)) ?_
              with_reducible refine (spec_l06Reduce.calls a1_0 a1_1 a1_2 ((rd_T36 l2 x7_2).f0.f0) ((rd_T36 l2 x7_2).f0.f1) ((rd_T36 l2 x7_2).f0.f2) ((rd_T36 l2 x7_2).f0.f3) ((rd_T36 l2 x7_2).f1.f0) ((rd_T36 l2 x7_2).f1.f1) t260 t261 t262 t263 t264 t265 _ A17.out).mono ?_
              rintro e w30 ⟨rfl, hb⟩
              refine ⟨_, rfl, ?_⟩
              replace BK255 := Aside0.mk (bbl BK255 hb)
              replace HB := Aside0.mk (bst1 HB GE255 hb)
              (try clear hb)
              (try clear hb2)
              (try clear hk)
              (try clear hi)
              refine hK.out _ _ ⟨bcl BK255 0, bcl BK255 1, bcl BK255 2, ((HB.out.cell (World.block_lt_of_cell? w _ hw257_0)).trans hw257_0), ((HB.out.cell (World.block_lt_of_cell? w _ hw257_1)).trans hw257_1), ((HB.out.cell (World.block_lt_of_cell? w _ hw257_2)).trans hw257_2), ((HB.out.cell (World.block_lt_of_cell? w _ hw257_3)).trans hw257_3), ((HB.out.cell (World.block_lt_of_cell? w _ hw257_4)).trans hw257_4), ((HB.out.cell (World.block_lt_of_cell? w _ hw257_5)).trans hw257_5), ((HB.out.cell (World.block_lt_of_cell? w _ hw259_0)).trans hw259_0), ((HB.out.cell (World.block_lt_of_cell? w _ hw259_1)).trans hw259_1), ((HB.out.cell (World.block_lt_of_cell? w _ hw259_2)).trans hw259_2), ((HB.out.cell (World.block_lt_of_cell? w _ hw259_3)).trans hw259_3), ((HB.out.cell (World.block_lt_of_cell? w _ hw259_4)).trans hw259_4), ((HB.out.cell (World.block_lt_of_cell? w _ hw259_5)).trans hw259_5), ((HB.out.cell (World.block_lt_of_cell? w _ hw266_0)).trans hw266_0), ((HB.out.cell (World.block_lt_of_cell? w _ hw266_1)).trans hw266_1), ((HB.out.cell (World.block_lt_of_cell? w _ hw266_2)).trans hw266_2), ((HB.out.cell (World.block_lt_of_cell? w _ hw266_3)).trans hw266_3), ((HB.out.cell (World.block_lt_of_cell? w _ hw266_4)).trans hw266_4), ((HB.out.cell (World.block_lt_of_cell? w _ hw266_5)).trans hw266_5), ((HB.out.cell (World.block_lt_of_cell? w _ hw267_0)).trans hw267_0), ((HB.out.cell (World.block_lt_of_cell? w _ hw267_1)).trans hw267_1), ((HB.out.cell (World.block_lt_of_cell? w _ hw267_2)).trans hw267_2), ((HB.out.cell (World.block_lt_of_cell? w _ hw267_3)).trans hw267_3), ((HB.out.cell (World.block_lt_of_cell? w _ hw267_4)).trans hw267_4), ((HB.out.cell (World.block_lt_of_cell? w _ hw267_5)).trans hw267_5), ((HB.out.cell (World.block_lt_of_cell? w _ hw268_0)).trans hw268_0), ((HB.out.cell (World.block_lt_of_cell? w _ hw268_1)).trans hw268_1), ((HB.out.cell (World.block_lt_of_cell? w _ hw268_2)).trans hw268_2), ((HB.out.cell (World.block_lt_of_cell? w _ hw268_3)).trans hw268_3), ((HB.out.cell (World.block_lt_of_cell? w _ hw268_4)).trans hw268_4), ((HB.out.cell (World.block_lt_of_cell? w _ hw268_5)).trans hw268_5)⟩ (fun hHeld => ?_)
              clear hK K
              refine norm_ (a' := ?_) ?_ ?_
              rotate_left
              ·show Act.put _ (some 39) _ = _
               simp only [Act.put, sA, sB, sC, i64_w, i32_w]
               rfl
              refine pu 19 (some 44) (bt 38 20) HT_ ?_
              refine pu 20 (some 45) (bt 38 21) HT_ ?_
              refine pu 21 (some 46) (bt 38 22) HT_ ?_
              refine pu 22 (some 47) (bt 38 23) HT_ ?_
              refine pu 23 (some 48) (bt 38 24) HT_ ?_
              refine pu 24 (some 49) (bt 38 25) HT_ ?_
              refine pu 25 (some 50) (bt 38 26) HT_ ?_
              refine pu 26 (some 51) (bt 38 27) HT_ ?_
              refine pu 27 (some 52) (bt 38 28) HT_ ?_
              refine pu 28 (some 53) (bt 38 29) HT_ ?_
              refine pu 30 (some 55) #[true, true, true, true, true, true, true, true, true, true, true, true, true, true, true, true, true, true, true, true, true, true, true, true, true, true, true, true, true, false, true, false, false, false, false, false, false, false] HT_ ?_
              refine pu 31 (some 56) #[true, true, true, true, true, true, true, true, true, true, true, true, true, true, true, true, true, true, true, true, true, true, true, true, true, true, true, true, true, false, true, true, false, false, false, false, false, false] HT_ ?_
              refine pu 32 (some 57) #[true, true, true, true, true, true, true, true, true, true, true, true, true, true, true, true, true, true, true, true, true, true, true, true, true, true, true, true, true, false, true, true, true, false, false, false, false, false] HT_ ?_
              refine ta 29 (some 54) (bt 38 33) HT_ HW_ hHeld ?_
              refine ta 33 (some 58) (bt 38 34) HT_ HW_ hHeld ?_
              refine one_ (i := 34) (N := some 59) (bt 38 35) rfl rfl (one_of HT_.out (by kernel_rfl)) (by decide) (fun K hK => ?_)
              refine goes_ Try.func61 (by kernel_rfl) rfl #[.agg #[.int .i64 ((rd_T36 l2 (ji23)).f0.f0), .int .i64 ((rd_T36 l2 (ji23)).f0.f1), .int .i64 ((rd_T36 l2 (ji23)).f0.f2), .int .i64 ((rd_T36 l2 (ji23)).f0.f3), .int .i64 ((rd_T36 l2 (ji23)).f1.f0), .int .i64 ((rd_T36 l2 (ji23)).f1.f1)], .agg #[.int .i64 ((rd_T36 l2 x7_2).f0.f0), .int .i64 ((rd_T36 l2 x7_2).f0.f1), .int .i64 ((rd_T36 l2 x7_2).f0.f2), .int .i64 ((rd_T36 l2 x7_2).f0.f3), .int .i64 ((rd_T36 l2 x7_2).f1.f0), .int .i64 ((rd_T36 l2 x7_2).f1.f1)]] (by rfl) rfl rfl (by (try simp only [List.map_toArray, List.map_cons, List.map_nil]); first | done | (simp only [hji23]; rfl) | rfl | (simp only [List.length_drop, List.length_take]; rfl)) ?_
              with_reducible refine (spec_l05Less.calls k2 ((rd_T36 l2 (ji23)).f0.f0) ((rd_T36 l2 (ji23)).f0.f1) ((rd_T36 l2 (ji23)).f0.f2) ((rd_T36 l2 (ji23)).f0.f3) ((rd_T36 l2 (ji23)).f1.f0) ((rd_T36 l2 (ji23)).f1.f1) ((rd_T36 l2 x7_2).f0.f0) ((rd_T36 l2 x7_2).f0.f1) ((rd_T36 l2 x7_2).f0.f2) ((rd_T36 l2 x7_2).f0.f3) ((rd_T36 l2 x7_2).f1.f0) ((rd_T36 l2 x7_2).f1.f1) true _ A26.out).mono ?_
              rintro e w31 ⟨rfl, hb⟩
              refine ⟨_, rfl, ?_⟩
              replace BK255 := Aside0.mk (bbl BK255 hb)
              replace HB := Aside0.mk (bst1 HB GE255 hb)
              (try clear hb)
              (try clear hb2)
              (try clear hk)
              (try clear hi)
              refine hK.out _ _ ⟨bcl BK255 0, bcl BK255 1, bcl BK255 2, ((HB.out.cell (World.block_lt_of_cell? w _ hw257_0)).trans hw257_0), ((HB.out.cell (World.block_lt_of_cell? w _ hw257_1)).trans hw257_1), ((HB.out.cell (World.block_lt_of_cell? w _ hw257_2)).trans hw257_2), ((HB.out.cell (World.block_lt_of_cell? w _ hw257_3)).trans hw257_3), ((HB.out.cell (World.block_lt_of_cell? w _ hw257_4)).trans hw257_4), ((HB.out.cell (World.block_lt_of_cell? w _ hw257_5)).trans hw257_5), ((HB.out.cell (World.block_lt_of_cell? w _ hw259_0)).trans hw259_0), ((HB.out.cell (World.block_lt_of_cell? w _ hw259_1)).trans hw259_1), ((HB.out.cell (World.block_lt_of_cell? w _ hw259_2)).trans hw259_2), ((HB.out.cell (World.block_lt_of_cell? w _ hw259_3)).trans hw259_3), ((HB.out.cell (World.block_lt_of_cell? w _ hw259_4)).trans hw259_4), ((HB.out.cell (World.block_lt_of_cell? w _ hw259_5)).trans hw259_5), ((HB.out.cell (World.block_lt_of_cell? w _ hw266_0)).trans hw266_0), ((HB.out.cell (World.block_lt_of_cell? w _ hw266_1)).trans hw266_1), ((HB.out.cell (World.block_lt_of_cell? w _ hw266_2)).trans hw266_2), ((HB.out.cell (World.block_lt_of_cell? w _ hw266_3)).trans hw266_3), ((HB.out.cell (World.block_lt_of_cell? w _ hw266_4)).trans hw266_4), ((HB.out.cell (World.block_lt_of_cell? w _ hw266_5)).trans hw266_5), ((HB.out.cell (World.block_lt_of_cell? w _ hw267_0)).trans hw267_0), ((HB.out.cell (World.block_lt_of_cell? w _ hw267_1)).trans hw267_1), ((HB.out.cell (World.block_lt_of_cell? w _ hw267_2)).trans hw267_2), ((HB.out.cell (World.block_lt_of_cell? w _ hw267_3)).trans hw267_3), ((HB.out.cell (World.block_lt_of_cell? w _ hw267_4)).trans hw267_4), ((HB.out.cell (World.block_lt_of_cell? w _ hw267_5)).trans hw267_5), ((HB.out.cell (World.block_lt_of_cell? w _ hw268_0)).trans hw268_0), ((HB.out.cell (World.block_lt_of_cell? w _ hw268_1)).trans hw268_1), ((HB.out.cell (World.block_lt_of_cell? w _ hw268_2)).trans hw268_2), ((HB.out.cell (World.block_lt_of_cell? w _ hw268_3)).trans hw268_3), ((HB.out.cell (World.block_lt_of_cell? w _ hw268_4)).trans hw268_4), ((HB.out.cell (World.block_lt_of_cell? w _ hw268_5)).trans hw268_5)⟩ (fun hHeld => ?_)
              clear hK K
              refine norm_ (a' := ?_) ?_ ?_
              rotate_left
              ·show Act.put _ (some 59) _ = _
               simp only [Act.put, sA, sB, sC, i64_w, i32_w]
               rfl
              refine pu 35 (some 60) (bt 38 36) HT_ ?_
              refine pu 36 (some 61) (bt 38 37) HT_ ?_
              refine pu 37 (some 62) (bt 38 38) HT_ ?_
              refine done_ (done_of HT_.out (by kernel_rfl)) ?_
              try go_wp2
              go_roundg k2
              case measure => have := HJ3.out; have := HK2.out; omega
              case rel => exact ⟨(wrap64 (x7_2 + 1)), (by first | rfl | (simp; done) | (simp [*]; done)), H', ⟨by have := HJ3.out; have := HK2.out; omega⟩, ⟨bkp BK255⟩, ⟨bbw1 HB GE255⟩⟩
             ·replace c27 := Bool.eq_false_iff.mpr c27
              subst c27
              have H1 : (some false) = some r := by rw [if_neg (show ¬ (false = true) by decide)] at H; first | done | exact H
              clear H
              have H := H1
              clear H1
              obtain rfl := Option.some.inj H
              try go_wp2
              replace BK255 := Aside0.mk (blk_drew BK255.out)
              replace HB := Aside0.mk (below_drew1 HB.out)
              have p257 : 0 ≤ (x7_2 : Int) := of_decide_eq_true (by first | (with_reducible assumption) | assumption)
              have q257 : x7_2 < (l2.length : Int) := of_decide_eq_true (by first | (with_reducible assumption) | assumption)
              obtain ⟨ad257, e257, hx257_0, hx257_1, hx257_2, hx257_3, hx257_4, hx257_5⟩ := at_T36 HR2.out x7_2 p257 q257
              have hw257_5 := hx257_5
              have hw257_4 := hx257_4
              have hw257_3 := hx257_3
              have hw257_2 := hx257_2
              have hw257_1 := hx257_1
              have hw257_0 := hx257_0
              cases e257
              replace hx257_0 := (HB.out.cell (World.block_lt_of_cell? w _ hx257_0)).trans hx257_0
              replace hx257_1 := (HB.out.cell (World.block_lt_of_cell? w _ hx257_1)).trans hx257_1
              replace hx257_2 := (HB.out.cell (World.block_lt_of_cell? w _ hx257_2)).trans hx257_2
              replace hx257_3 := (HB.out.cell (World.block_lt_of_cell? w _ hx257_3)).trans hx257_3
              replace hx257_4 := (HB.out.cell (World.block_lt_of_cell? w _ hx257_4)).trans hx257_4
              replace hx257_5 := (HB.out.cell (World.block_lt_of_cell? w _ hx257_5)).trans hx257_5
              replace p257 := eq_true p257
              replace q257 := eq_true q257
              have p259 : 0 ≤ (x7_2 : Int) := of_decide_eq_true (by first | (with_reducible assumption) | assumption)
              have q259 : x7_2 < (l2.length : Int) := of_decide_eq_true (by first | (with_reducible assumption) | assumption)
              obtain ⟨ad259, e259, hx259_0, hx259_1, hx259_2, hx259_3, hx259_4, hx259_5⟩ := at_T36 HR2.out x7_2 p259 q259
              have hw259_5 := hx259_5
              have hw259_4 := hx259_4
              have hw259_3 := hx259_3
              have hw259_2 := hx259_2
              have hw259_1 := hx259_1
              have hw259_0 := hx259_0
              obtain rfl : ad257 = ad259 := (by injection e259)
              replace hx259_0 := (HB.out.cell (World.block_lt_of_cell? w _ hx259_0)).trans hx259_0
              replace hx259_1 := (HB.out.cell (World.block_lt_of_cell? w _ hx259_1)).trans hx259_1
              replace hx259_2 := (HB.out.cell (World.block_lt_of_cell? w _ hx259_2)).trans hx259_2
              replace hx259_3 := (HB.out.cell (World.block_lt_of_cell? w _ hx259_3)).trans hx259_3
              replace hx259_4 := (HB.out.cell (World.block_lt_of_cell? w _ hx259_4)).trans hx259_4
              replace hx259_5 := (HB.out.cell (World.block_lt_of_cell? w _ hx259_5)).trans hx259_5
              replace p259 := eq_true p259
              replace q259 := eq_true q259
              have p266 : 0 ≤ (x7_2 : Int) := of_decide_eq_true (by first | (with_reducible assumption) | assumption)
              have q266 : x7_2 < (l2.length : Int) := of_decide_eq_true (by first | (with_reducible assumption) | assumption)
              obtain ⟨ad266, e266, hx266_0, hx266_1, hx266_2, hx266_3, hx266_4, hx266_5⟩ := at_T36 HR2.out x7_2 p266 q266
              have hw266_5 := hx266_5
              have hw266_4 := hx266_4
              have hw266_3 := hx266_3
              have hw266_2 := hx266_2
              have hw266_1 := hx266_1
              have hw266_0 := hx266_0
              obtain rfl : ad257 = ad266 := (by injection e266)
              replace hx266_0 := (HB.out.cell (World.block_lt_of_cell? w _ hx266_0)).trans hx266_0
              replace hx266_1 := (HB.out.cell (World.block_lt_of_cell? w _ hx266_1)).trans hx266_1
              replace hx266_2 := (HB.out.cell (World.block_lt_of_cell? w _ hx266_2)).trans hx266_2
              replace hx266_3 := (HB.out.cell (World.block_lt_of_cell? w _ hx266_3)).trans hx266_3
              replace hx266_4 := (HB.out.cell (World.block_lt_of_cell? w _ hx266_4)).trans hx266_4
              replace hx266_5 := (HB.out.cell (World.block_lt_of_cell? w _ hx266_5)).trans hx266_5
              replace p266 := eq_true p266
              replace q266 := eq_true q266
              have p267 : 0 ≤ ((ji23) : Int) := of_decide_eq_true (by first | (with_reducible assumption) | assumption)
              have q267 : (ji23) < (l2.length : Int) := of_decide_eq_true (by first | (with_reducible assumption) | assumption)
              obtain ⟨ad267, e267, hx267_0, hx267_1, hx267_2, hx267_3, hx267_4, hx267_5⟩ := at_T36 HR2.out (ji23) p267 q267
              have hw267_5 := hx267_5
              have hw267_4 := hx267_4
              have hw267_3 := hx267_3
              have hw267_2 := hx267_2
              have hw267_1 := hx267_1
              have hw267_0 := hx267_0
              obtain rfl : ad257 = ad267 := (by injection e267)
              replace hx267_0 := (HB.out.cell (World.block_lt_of_cell? w _ hx267_0)).trans hx267_0
              replace hx267_1 := (HB.out.cell (World.block_lt_of_cell? w _ hx267_1)).trans hx267_1
              replace hx267_2 := (HB.out.cell (World.block_lt_of_cell? w _ hx267_2)).trans hx267_2
              replace hx267_3 := (HB.out.cell (World.block_lt_of_cell? w _ hx267_3)).trans hx267_3
              replace hx267_4 := (HB.out.cell (World.block_lt_of_cell? w _ hx267_4)).trans hx267_4
              replace hx267_5 := (HB.out.cell (World.block_lt_of_cell? w _ hx267_5)).trans hx267_5
              replace p267 := eq_true p267
              replace q267 := eq_true q267
              have p268 : 0 ≤ (x7_2 : Int) := of_decide_eq_true (by first | (with_reducible assumption) | assumption)
              have q268 : x7_2 < (l2.length : Int) := of_decide_eq_true (by first | (with_reducible assumption) | assumption)
              obtain ⟨ad268, e268, hx268_0, hx268_1, hx268_2, hx268_3, hx268_4, hx268_5⟩ := at_T36 HR2.out x7_2 p268 q268
              have hw268_5 := hx268_5
              have hw268_4 := hx268_4
              have hw268_3 := hx268_3
              have hw268_2 := hx268_2
              have hw268_1 := hx268_1
              have hw268_0 := hx268_0
              obtain rfl : ad257 = ad268 := (by injection e268)
              replace hx268_0 := (HB.out.cell (World.block_lt_of_cell? w _ hx268_0)).trans hx268_0
              replace hx268_1 := (HB.out.cell (World.block_lt_of_cell? w _ hx268_1)).trans hx268_1
              replace hx268_2 := (HB.out.cell (World.block_lt_of_cell? w _ hx268_2)).trans hx268_2
              replace hx268_3 := (HB.out.cell (World.block_lt_of_cell? w _ hx268_3)).trans hx268_3
              replace hx268_4 := (HB.out.cell (World.block_lt_of_cell? w _ hx268_4)).trans hx268_4
              replace hx268_5 := (HB.out.cell (World.block_lt_of_cell? w _ hx268_5)).trans hx268_5
              replace p268 := eq_true p268
              replace q268 := eq_true q268
              refine start_ (n := 38) (S := fun w' => w'.cell? ⟨gb255, 0, none⟩ = some (.int .i64 a1_0) ∧ w'.cell? ⟨gb255, 1, none⟩ = some (.int .i64 a1_1) ∧ w'.cell? ⟨gb255, 2, none⟩ = some (.int .i64 a1_2) ∧ w'.cell? (ad257.add ((x7_2).toNat * 6)) = some (.int .i64 ((rd_T36 l2 x7_2).f0.f0)) ∧ w'.cell? ⟨(ad257.add ((x7_2).toNat * 6)).block, (ad257.add ((x7_2).toNat * 6)).off + 1, none⟩ = some (.int .i64 ((rd_T36 l2 x7_2).f0.f1)) ∧ w'.cell? ⟨(ad257.add ((x7_2).toNat * 6)).block, (ad257.add ((x7_2).toNat * 6)).off + 2, none⟩ = some (.int .i64 ((rd_T36 l2 x7_2).f0.f2)) ∧ w'.cell? ⟨(ad257.add ((x7_2).toNat * 6)).block, (ad257.add ((x7_2).toNat * 6)).off + 3, none⟩ = some (.int .i64 ((rd_T36 l2 x7_2).f0.f3)) ∧ w'.cell? ⟨(ad257.add ((x7_2).toNat * 6)).block, (ad257.add ((x7_2).toNat * 6)).off + 4, none⟩ = some (.int .i64 ((rd_T36 l2 x7_2).f1.f0)) ∧ w'.cell? ⟨(ad257.add ((x7_2).toNat * 6)).block, (ad257.add ((x7_2).toNat * 6)).off + 5, none⟩ = some (.int .i64 ((rd_T36 l2 x7_2).f1.f1)) ∧ w'.cell? (ad257.add ((x7_2).toNat * 6)) = some (.int .i64 ((rd_T36 l2 x7_2).f0.f0)) ∧ w'.cell? ⟨(ad257.add ((x7_2).toNat * 6)).block, (ad257.add ((x7_2).toNat * 6)).off + 1, none⟩ = some (.int .i64 ((rd_T36 l2 x7_2).f0.f1)) ∧ w'.cell? ⟨(ad257.add ((x7_2).toNat * 6)).block, (ad257.add ((x7_2).toNat * 6)).off + 2, none⟩ = some (.int .i64 ((rd_T36 l2 x7_2).f0.f2)) ∧ w'.cell? ⟨(ad257.add ((x7_2).toNat * 6)).block, (ad257.add ((x7_2).toNat * 6)).off + 3, none⟩ = some (.int .i64 ((rd_T36 l2 x7_2).f0.f3)) ∧ w'.cell? ⟨(ad257.add ((x7_2).toNat * 6)).block, (ad257.add ((x7_2).toNat * 6)).off + 4, none⟩ = some (.int .i64 ((rd_T36 l2 x7_2).f1.f0)) ∧ w'.cell? ⟨(ad257.add ((x7_2).toNat * 6)).block, (ad257.add ((x7_2).toNat * 6)).off + 5, none⟩ = some (.int .i64 ((rd_T36 l2 x7_2).f1.f1)) ∧ w'.cell? (ad257.add ((x7_2).toNat * 6)) = some (.int .i64 ((rd_T36 l2 x7_2).f0.f0)) ∧ w'.cell? ⟨(ad257.add ((x7_2).toNat * 6)).block, (ad257.add ((x7_2).toNat * 6)).off + 1, none⟩ = some (.int .i64 ((rd_T36 l2 x7_2).f0.f1)) ∧ w'.cell? ⟨(ad257.add ((x7_2).toNat * 6)).block, (ad257.add ((x7_2).toNat * 6)).off + 2, none⟩ = some (.int .i64 ((rd_T36 l2 x7_2).f0.f2)) ∧ w'.cell? ⟨(ad257.add ((x7_2).toNat * 6)).block, (ad257.add ((x7_2).toNat * 6)).off + 3, none⟩ = some (.int .i64 ((rd_T36 l2 x7_2).f0.f3)) ∧ w'.cell? ⟨(ad257.add ((x7_2).toNat * 6)).block, (ad257.add ((x7_2).toNat * 6)).off + 4, none⟩ = some (.int .i64 ((rd_T36 l2 x7_2).f1.f0)) ∧ w'.cell? ⟨(ad257.add ((x7_2).toNat * 6)).block, (ad257.add ((x7_2).toNat * 6)).off + 5, none⟩ = some (.int .i64 ((rd_T36 l2 x7_2).f1.f1)) ∧ w'.cell? (ad257.add (((ji23)).toNat * 6)) = some (.int .i64 ((rd_T36 l2 (ji23)).f0.f0)) ∧ w'.cell? ⟨(ad257.add (((ji23)).toNat * 6)).block, (ad257.add (((ji23)).toNat * 6)).off + 1, none⟩ = some (.int .i64 ((rd_T36 l2 (ji23)).f0.f1)) ∧ w'.cell? ⟨(ad257.add (((ji23)).toNat * 6)).block, (ad257.add (((ji23)).toNat * 6)).off + 2, none⟩ = some (.int .i64 ((rd_T36 l2 (ji23)).f0.f2)) ∧ w'.cell? ⟨(ad257.add (((ji23)).toNat * 6)).block, (ad257.add (((ji23)).toNat * 6)).off + 3, none⟩ = some (.int .i64 ((rd_T36 l2 (ji23)).f0.f3)) ∧ w'.cell? ⟨(ad257.add (((ji23)).toNat * 6)).block, (ad257.add (((ji23)).toNat * 6)).off + 4, none⟩ = some (.int .i64 ((rd_T36 l2 (ji23)).f1.f0)) ∧ w'.cell? ⟨(ad257.add (((ji23)).toNat * 6)).block, (ad257.add (((ji23)).toNat * 6)).off + 5, none⟩ = some (.int .i64 ((rd_T36 l2 (ji23)).f1.f1)) ∧ w'.cell? (ad257.add ((x7_2).toNat * 6)) = some (.int .i64 ((rd_T36 l2 x7_2).f0.f0)) ∧ w'.cell? ⟨(ad257.add ((x7_2).toNat * 6)).block, (ad257.add ((x7_2).toNat * 6)).off + 1, none⟩ = some (.int .i64 ((rd_T36 l2 x7_2).f0.f1)) ∧ w'.cell? ⟨(ad257.add ((x7_2).toNat * 6)).block, (ad257.add ((x7_2).toNat * 6)).off + 2, none⟩ = some (.int .i64 ((rd_T36 l2 x7_2).f0.f2)) ∧ w'.cell? ⟨(ad257.add ((x7_2).toNat * 6)).block, (ad257.add ((x7_2).toNat * 6)).off + 3, none⟩ = some (.int .i64 ((rd_T36 l2 x7_2).f0.f3)) ∧ w'.cell? ⟨(ad257.add ((x7_2).toNat * 6)).block, (ad257.add ((x7_2).toNat * 6)).off + 4, none⟩ = some (.int .i64 ((rd_T36 l2 x7_2).f1.f0)) ∧ w'.cell? ⟨(ad257.add ((x7_2).toNat * 6)).block, (ad257.add ((x7_2).toNat * 6)).off + 5, none⟩ = some (.int .i64 ((rd_T36 l2 x7_2).f1.f1))) (ds := []) (bt 38 0) (by kernel_rfl) rfl rfl ⟨bcl BK255 0, bcl BK255 1, bcl BK255 2, ((HB.out.cell (World.block_lt_of_cell? w _ hw257_0)).trans hw257_0), ((HB.out.cell (World.block_lt_of_cell? w _ hw257_1)).trans hw257_1), ((HB.out.cell (World.block_lt_of_cell? w _ hw257_2)).trans hw257_2), ((HB.out.cell (World.block_lt_of_cell? w _ hw257_3)).trans hw257_3), ((HB.out.cell (World.block_lt_of_cell? w _ hw257_4)).trans hw257_4), ((HB.out.cell (World.block_lt_of_cell? w _ hw257_5)).trans hw257_5), ((HB.out.cell (World.block_lt_of_cell? w _ hw259_0)).trans hw259_0), ((HB.out.cell (World.block_lt_of_cell? w _ hw259_1)).trans hw259_1), ((HB.out.cell (World.block_lt_of_cell? w _ hw259_2)).trans hw259_2), ((HB.out.cell (World.block_lt_of_cell? w _ hw259_3)).trans hw259_3), ((HB.out.cell (World.block_lt_of_cell? w _ hw259_4)).trans hw259_4), ((HB.out.cell (World.block_lt_of_cell? w _ hw259_5)).trans hw259_5), ((HB.out.cell (World.block_lt_of_cell? w _ hw266_0)).trans hw266_0), ((HB.out.cell (World.block_lt_of_cell? w _ hw266_1)).trans hw266_1), ((HB.out.cell (World.block_lt_of_cell? w _ hw266_2)).trans hw266_2), ((HB.out.cell (World.block_lt_of_cell? w _ hw266_3)).trans hw266_3), ((HB.out.cell (World.block_lt_of_cell? w _ hw266_4)).trans hw266_4), ((HB.out.cell (World.block_lt_of_cell? w _ hw266_5)).trans hw266_5), ((HB.out.cell (World.block_lt_of_cell? w _ hw267_0)).trans hw267_0), ((HB.out.cell (World.block_lt_of_cell? w _ hw267_1)).trans hw267_1), ((HB.out.cell (World.block_lt_of_cell? w _ hw267_2)).trans hw267_2), ((HB.out.cell (World.block_lt_of_cell? w _ hw267_3)).trans hw267_3), ((HB.out.cell (World.block_lt_of_cell? w _ hw267_4)).trans hw267_4), ((HB.out.cell (World.block_lt_of_cell? w _ hw267_5)).trans hw267_5), ((HB.out.cell (World.block_lt_of_cell? w _ hw268_0)).trans hw268_0), ((HB.out.cell (World.block_lt_of_cell? w _ hw268_1)).trans hw268_1), ((HB.out.cell (World.block_lt_of_cell? w _ hw268_2)).trans hw268_2), ((HB.out.cell (World.block_lt_of_cell? w _ hw268_3)).trans hw268_3), ((HB.out.cell (World.block_lt_of_cell? w _ hw268_4)).trans hw268_4), ((HB.out.cell (World.block_lt_of_cell? w _ hw268_5)).trans hw268_5)⟩ (fun hHeld => ?_); refine with_tabW spec_IsGroup.tab6 spec_IsGroup.bits6 (fun HT_ HW_ => ?_)
              generalize wr.drew = w32 at BK255 HB hx257_0 hx257_1 hx257_2 hx257_3 hx257_4 hx257_5 hx259_0 hx259_1 hx259_2 hx259_3 hx259_4 hx259_5 hx266_0 hx266_1 hx266_2 hx266_3 hx266_4 hx266_5 hx267_0 hx267_1 hx267_2 hx267_3 hx267_4 hx267_5 hx268_0 hx268_1 hx268_2 hx268_3 hx268_4 hx268_5 hHeld ⊢
              refine pu 0 (some 25) (bt 38 1) HT_ ?_
              refine pu 2 (some 27) #[true, false, true, false, false, false, false, false, false, false, false, false, false, false, false, false, false, false, false, false, false, false, false, false, false, false, false, false, false, false, false, false, false, false, false, false, false, false] HT_ ?_
              refine pu 3 (some 28) #[true, false, true, true, false, false, false, false, false, false, false, false, false, false, false, false, false, false, false, false, false, false, false, false, false, false, false, false, false, false, false, false, false, false, false, false, false, false] HT_ ?_
              refine pu 4 (some 29) #[true, false, true, true, true, false, false, false, false, false, false, false, false, false, false, false, false, false, false, false, false, false, false, false, false, false, false, false, false, false, false, false, false, false, false, false, false, false] HT_ ?_
              refine ta 1 (some 26) (bt 38 5) HT_ HW_ hHeld ?_
              refine ta 5 (some 30) (bt 38 6) HT_ HW_ hHeld ?_
              refine one_ (i := 6) (N := some 31) (bt 38 7) rfl rfl (one_of HT_.out (by kernel_rfl)) (by decide) (fun K hK => ?_)
              refine goes_ Try.func11 (by kernel_rfl) rfl #[.int .i64 a0, .agg #[.int .i64 a1_0, .int .i64 a1_1, .int .i64 a1_2], .agg #[.int .i64 ((rd_T36 l2 x7_2).f0.f0), .int .i64 ((rd_T36 l2 x7_2).f0.f1), .int .i64 ((rd_T36 l2 x7_2).f0.f2), .int .i64 ((rd_T36 l2 x7_2).f0.f3), .int .i64 ((rd_T36 l2 x7_2).f1.f0), .int .i64 ((rd_T36 l2 x7_2).f1.f1)]] (by rfl) rfl rfl (by (try simp only [List.map_toArray, List.map_cons, List.map_nil]); first | done | rfl | (simp only [List.length_drop, List.length_take]; rfl)) ?_
              with_reducible refine (spec_IsSuitable.calls k2 a0 a1_0 a1_1 a1_2 ((rd_T36 l2 x7_2).f0.f0) ((rd_T36 l2 x7_2).f0.f1) ((rd_T36 l2 x7_2).f0.f2) ((rd_T36 l2 x7_2).f0.f3) ((rd_T36 l2 x7_2).f1.f0) ((rd_T36 l2 x7_2).f1.f1) true _ A15.out).mono ?_
              rintro e w33 ⟨rfl, hb⟩
              refine ⟨_, rfl, ?_⟩
              replace BK255 := Aside0.mk (bbl BK255 hb)
              replace HB := Aside0.mk (bst1 HB GE255 hb)
              (try clear hb)
              (try clear hb2)
              (try clear hk)
              (try clear hi)
              refine hK.out _ _ ⟨bcl BK255 0, bcl BK255 1, bcl BK255 2, ((HB.out.cell (World.block_lt_of_cell? w _ hw257_0)).trans hw257_0), ((HB.out.cell (World.block_lt_of_cell? w _ hw257_1)).trans hw257_1), ((HB.out.cell (World.block_lt_of_cell? w _ hw257_2)).trans hw257_2), ((HB.out.cell (World.block_lt_of_cell? w _ hw257_3)).trans hw257_3), ((HB.out.cell (World.block_lt_of_cell? w _ hw257_4)).trans hw257_4), ((HB.out.cell (World.block_lt_of_cell? w _ hw257_5)).trans hw257_5), ((HB.out.cell (World.block_lt_of_cell? w _ hw259_0)).trans hw259_0), ((HB.out.cell (World.block_lt_of_cell? w _ hw259_1)).trans hw259_1), ((HB.out.cell (World.block_lt_of_cell? w _ hw259_2)).trans hw259_2), ((HB.out.cell (World.block_lt_of_cell? w _ hw259_3)).trans hw259_3), ((HB.out.cell (World.block_lt_of_cell? w _ hw259_4)).trans hw259_4), ((HB.out.cell (World.block_lt_of_cell? w _ hw259_5)).trans hw259_5), ((HB.out.cell (World.block_lt_of_cell? w _ hw266_0)).trans hw266_0), ((HB.out.cell (World.block_lt_of_cell? w _ hw266_1)).trans hw266_1), ((HB.out.cell (World.block_lt_of_cell? w _ hw266_2)).trans hw266_2), ((HB.out.cell (World.block_lt_of_cell? w _ hw266_3)).trans hw266_3), ((HB.out.cell (World.block_lt_of_cell? w _ hw266_4)).trans hw266_4), ((HB.out.cell (World.block_lt_of_cell? w _ hw266_5)).trans hw266_5), ((HB.out.cell (World.block_lt_of_cell? w _ hw267_0)).trans hw267_0), ((HB.out.cell (World.block_lt_of_cell? w _ hw267_1)).trans hw267_1), ((HB.out.cell (World.block_lt_of_cell? w _ hw267_2)).trans hw267_2), ((HB.out.cell (World.block_lt_of_cell? w _ hw267_3)).trans hw267_3), ((HB.out.cell (World.block_lt_of_cell? w _ hw267_4)).trans hw267_4), ((HB.out.cell (World.block_lt_of_cell? w _ hw267_5)).trans hw267_5), ((HB.out.cell (World.block_lt_of_cell? w _ hw268_0)).trans hw268_0), ((HB.out.cell (World.block_lt_of_cell? w _ hw268_1)).trans hw268_1), ((HB.out.cell (World.block_lt_of_cell? w _ hw268_2)).trans hw268_2), ((HB.out.cell (World.block_lt_of_cell? w _ hw268_3)).trans hw268_3), ((HB.out.cell (World.block_lt_of_cell? w _ hw268_4)).trans hw268_4), ((HB.out.cell (World.block_lt_of_cell? w _ hw268_5)).trans hw268_5)⟩ (fun hHeld => ?_)
              clear hK K
              refine norm_ (a' := ?_) ?_ ?_
              rotate_left
              ·show Act.put _ (some 31) _ = _
               simp only [Act.put, sA, sB, sC, i64_w, i32_w]
               rfl
              refine pu 7 (some 32) (bt 38 8) HT_ ?_
              refine pu 8 (some 33) (bt 38 9) HT_ ?_
              refine pu 10 (some 35) #[true, true, true, true, true, true, true, true, true, false, true, false, false, false, false, false, false, false, false, false, false, false, false, false, false, false, false, false, false, false, false, false, false, false, false, false, false, false] HT_ ?_
              refine pu 11 (some 36) #[true, true, true, true, true, true, true, true, true, false, true, true, false, false, false, false, false, false, false, false, false, false, false, false, false, false, false, false, false, false, false, false, false, false, false, false, false, false] HT_ ?_
              refine pu 12 (some 37) #[true, true, true, true, true, true, true, true, true, false, true, true, true, false, false, false, false, false, false, false, false, false, false, false, false, false, false, false, false, false, false, false, false, false, false, false, false, false] HT_ ?_
              refine pu 15 (some 40) #[true, true, true, true, true, true, true, true, true, false, true, true, true, false, false, true, false, false, false, false, false, false, false, false, false, false, false, false, false, false, false, false, false, false, false, false, false, false] HT_ ?_
              refine pu 16 (some 41) #[true, true, true, true, true, true, true, true, true, false, true, true, true, false, false, true, true, false, false, false, false, false, false, false, false, false, false, false, false, false, false, false, false, false, false, false, false, false] HT_ ?_
              refine pu 17 (some 42) #[true, true, true, true, true, true, true, true, true, false, true, true, true, false, false, true, true, true, false, false, false, false, false, false, false, false, false, false, false, false, false, false, false, false, false, false, false, false] HT_ ?_
              refine ta 9 (some 34) #[true, true, true, true, true, true, true, true, true, true, true, true, true, false, false, true, true, true, false, false, false, false, false, false, false, false, false, false, false, false, false, false, false, false, false, false, false, false] HT_ HW_ hHeld ?_
              refine ta 13 (some 38) #[true, true, true, true, true, true, true, true, true, true, true, true, true, true, false, true, true, true, false, false, false, false, false, false, false, false, false, false, false, false, false, false, false, false, false, false, false, false] HT_ HW_ hHeld ?_
              refine ta 18 (some 43) #[true, true, true, true, true, true, true, true, true, true, true, true, true, true, false, true, true, true, true, false, false, false, false, false, false, false, false, false, false, false, false, false, false, false, false, false, false, false] HT_ HW_ hHeld ?_
              refine one_ (i := 14) (N := some 39) (bt 38 19) rfl rfl (one_of HT_.out (by kernel_rfl)) (by decide) (fun K hK => ?_)
              refine goes_ Try.func46 (by kernel_rfl) rfl #[.agg #[.int .i64 a1_0, .int .i64 a1_1, .int .i64 a1_2], .agg #[.int .i64 ((rd_T36 l2 x7_2).f0.f0), .int .i64 ((rd_T36 l2 x7_2).f0.f1), .int .i64 ((rd_T36 l2 x7_2).f0.f2), .int .i64 ((rd_T36 l2 x7_2).f0.f3), .int .i64 ((rd_T36 l2 x7_2).f1.f0), .int .i64 ((rd_T36 l2 x7_2).f1.f1)]] (by rfl) rfl rfl (by (try simp only [List.map_toArray, List.map_cons, List.map_nil]); first | done | rfl | (simp only [List.length_drop, List.length_take]; rfl)) ?_
              with_reducible refine (spec_l06Reduce.calls a1_0 a1_1 a1_2 ((rd_T36 l2 x7_2).f0.f0) ((rd_T36 l2 x7_2).f0.f1) ((rd_T36 l2 x7_2).f0.f2) ((rd_T36 l2 x7_2).f0.f3) ((rd_T36 l2 x7_2).f1.f0) ((rd_T36 l2 x7_2).f1.f1) t260 t261 t262 t263 t264 t265 _ A17.out).mono ?_
              rintro e w34 ⟨rfl, hb⟩
              refine ⟨_, rfl, ?_⟩
              replace BK255 := Aside0.mk (bbl BK255 hb)
              replace HB := Aside0.mk (bst1 HB GE255 hb)
              (try clear hb)
              (try clear hb2)
              (try clear hk)
              (try clear hi)
              refine hK.out _ _ ⟨bcl BK255 0, bcl BK255 1, bcl BK255 2, ((HB.out.cell (World.block_lt_of_cell? w _ hw257_0)).trans hw257_0), ((HB.out.cell (World.block_lt_of_cell? w _ hw257_1)).trans hw257_1), ((HB.out.cell (World.block_lt_of_cell? w _ hw257_2)).trans hw257_2), ((HB.out.cell (World.block_lt_of_cell? w _ hw257_3)).trans hw257_3), ((HB.out.cell (World.block_lt_of_cell? w _ hw257_4)).trans hw257_4), ((HB.out.cell (World.block_lt_of_cell? w _ hw257_5)).trans hw257_5), ((HB.out.cell (World.block_lt_of_cell? w _ hw259_0)).trans hw259_0), ((HB.out.cell (World.block_lt_of_cell? w _ hw259_1)).trans hw259_1), ((HB.out.cell (World.block_lt_of_cell? w _ hw259_2)).trans hw259_2), ((HB.out.cell (World.block_lt_of_cell? w _ hw259_3)).trans hw259_3), ((HB.out.cell (World.block_lt_of_cell? w _ hw259_4)).trans hw259_4), ((HB.out.cell (World.block_lt_of_cell? w _ hw259_5)).trans hw259_5), ((HB.out.cell (World.block_lt_of_cell? w _ hw266_0)).trans hw266_0), ((HB.out.cell (World.block_lt_of_cell? w _ hw266_1)).trans hw266_1), ((HB.out.cell (World.block_lt_of_cell? w _ hw266_2)).trans hw266_2), ((HB.out.cell (World.block_lt_of_cell? w _ hw266_3)).trans hw266_3), ((HB.out.cell (World.block_lt_of_cell? w _ hw266_4)).trans hw266_4), ((HB.out.cell (World.block_lt_of_cell? w _ hw266_5)).trans hw266_5), ((HB.out.cell (World.block_lt_of_cell? w _ hw267_0)).trans hw267_0), ((HB.out.cell (World.block_lt_of_cell? w _ hw267_1)).trans hw267_1), ((HB.out.cell (World.block_lt_of_cell? w _ hw267_2)).trans hw267_2), ((HB.out.cell (World.block_lt_of_cell? w _ hw267_3)).trans hw267_3), ((HB.out.cell (World.block_lt_of_cell? w _ hw267_4)).trans hw267_4), ((HB.out.cell (World.block_lt_of_cell? w _ hw267_5)).trans hw267_5), ((HB.out.cell (World.block_lt_of_cell? w _ hw268_0)).trans hw268_0), ((HB.out.cell (World.block_lt_of_cell? w _ hw268_1)).trans hw268_1), ((HB.out.cell (World.block_lt_of_cell? w _ hw268_2)).trans hw268_2), ((HB.out.cell (World.block_lt_of_cell? w _ hw268_3)).trans hw268_3), ((HB.out.cell (World.block_lt_of_cell? w _ hw268_4)).trans hw268_4), ((HB.out.cell (World.block_lt_of_cell? w _ hw268_5)).trans hw268_5)⟩ (fun hHeld => ?_)
              clear hK K
              refine norm_ (a' := ?_) ?_ ?_
              rotate_left
              ·show Act.put _ (some 39) _ = _
               simp only [Act.put, sA, sB, sC, i64_w, i32_w]
               rfl
              refine pu 19 (some 44) (bt 38 20) HT_ ?_
              refine pu 20 (some 45) (bt 38 21) HT_ ?_
              refine pu 21 (some 46) (bt 38 22) HT_ ?_
              refine pu 22 (some 47) (bt 38 23) HT_ ?_
              refine pu 23 (some 48) (bt 38 24) HT_ ?_
              refine pu 24 (some 49) (bt 38 25) HT_ ?_
              refine pu 25 (some 50) (bt 38 26) HT_ ?_
              refine pu 26 (some 51) (bt 38 27) HT_ ?_
              refine pu 27 (some 52) (bt 38 28) HT_ ?_
              refine pu 28 (some 53) (bt 38 29) HT_ ?_
              refine pu 30 (some 55) #[true, true, true, true, true, true, true, true, true, true, true, true, true, true, true, true, true, true, true, true, true, true, true, true, true, true, true, true, true, false, true, false, false, false, false, false, false, false] HT_ ?_
              refine pu 31 (some 56) #[true, true, true, true, true, true, true, true, true, true, true, true, true, true, true, true, true, true, true, true, true, true, true, true, true, true, true, true, true, false, true, true, false, false, false, false, false, false] HT_ ?_
              refine pu 32 (some 57) #[true, true, true, true, true, true, true, true, true, true, true, true, true, true, true, true, true, true, true, true, true, true, true, true, true, true, true, true, true, false, true, true, true, false, false, false, false, false] HT_ ?_
              refine ta 29 (some 54) (bt 38 33) HT_ HW_ hHeld ?_
              refine ta 33 (some 58) (bt 38 34) HT_ HW_ hHeld ?_
              refine one_ (i := 34) (N := some 59) (bt 38 35) rfl rfl (one_of HT_.out (by kernel_rfl)) (by decide) (fun K hK => ?_)
              refine goes_ Try.func61 (by kernel_rfl) rfl #[.agg #[.int .i64 ((rd_T36 l2 (ji23)).f0.f0), .int .i64 ((rd_T36 l2 (ji23)).f0.f1), .int .i64 ((rd_T36 l2 (ji23)).f0.f2), .int .i64 ((rd_T36 l2 (ji23)).f0.f3), .int .i64 ((rd_T36 l2 (ji23)).f1.f0), .int .i64 ((rd_T36 l2 (ji23)).f1.f1)], .agg #[.int .i64 ((rd_T36 l2 x7_2).f0.f0), .int .i64 ((rd_T36 l2 x7_2).f0.f1), .int .i64 ((rd_T36 l2 x7_2).f0.f2), .int .i64 ((rd_T36 l2 x7_2).f0.f3), .int .i64 ((rd_T36 l2 x7_2).f1.f0), .int .i64 ((rd_T36 l2 x7_2).f1.f1)]] (by rfl) rfl rfl (by (try simp only [List.map_toArray, List.map_cons, List.map_nil]); first | done | (simp only [hji23]; rfl) | rfl | (simp only [List.length_drop, List.length_take]; rfl)) ?_
              with_reducible refine (spec_l05Less.calls k2 ((rd_T36 l2 (ji23)).f0.f0) ((rd_T36 l2 (ji23)).f0.f1) ((rd_T36 l2 (ji23)).f0.f2) ((rd_T36 l2 (ji23)).f0.f3) ((rd_T36 l2 (ji23)).f1.f0) ((rd_T36 l2 (ji23)).f1.f1) ((rd_T36 l2 x7_2).f0.f0) ((rd_T36 l2 x7_2).f0.f1) ((rd_T36 l2 x7_2).f0.f2) ((rd_T36 l2 x7_2).f0.f3) ((rd_T36 l2 x7_2).f1.f0) ((rd_T36 l2 x7_2).f1.f1) false _ A26.out).mono ?_
              rintro e w35 ⟨rfl, hb⟩
              refine ⟨_, rfl, ?_⟩
              replace BK255 := Aside0.mk (bbl BK255 hb)
              replace HB := Aside0.mk (bst1 HB GE255 hb)
              (try clear hb)
              (try clear hb2)
              (try clear hk)
              (try clear hi)
              refine hK.out _ _ ⟨bcl BK255 0, bcl BK255 1, bcl BK255 2, ((HB.out.cell (World.block_lt_of_cell? w _ hw257_0)).trans hw257_0), ((HB.out.cell (World.block_lt_of_cell? w _ hw257_1)).trans hw257_1), ((HB.out.cell (World.block_lt_of_cell? w _ hw257_2)).trans hw257_2), ((HB.out.cell (World.block_lt_of_cell? w _ hw257_3)).trans hw257_3), ((HB.out.cell (World.block_lt_of_cell? w _ hw257_4)).trans hw257_4), ((HB.out.cell (World.block_lt_of_cell? w _ hw257_5)).trans hw257_5), ((HB.out.cell (World.block_lt_of_cell? w _ hw259_0)).trans hw259_0), ((HB.out.cell (World.block_lt_of_cell? w _ hw259_1)).trans hw259_1), ((HB.out.cell (World.block_lt_of_cell? w _ hw259_2)).trans hw259_2), ((HB.out.cell (World.block_lt_of_cell? w _ hw259_3)).trans hw259_3), ((HB.out.cell (World.block_lt_of_cell? w _ hw259_4)).trans hw259_4), ((HB.out.cell (World.block_lt_of_cell? w _ hw259_5)).trans hw259_5), ((HB.out.cell (World.block_lt_of_cell? w _ hw266_0)).trans hw266_0), ((HB.out.cell (World.block_lt_of_cell? w _ hw266_1)).trans hw266_1), ((HB.out.cell (World.block_lt_of_cell? w _ hw266_2)).trans hw266_2), ((HB.out.cell (World.block_lt_of_cell? w _ hw266_3)).trans hw266_3), ((HB.out.cell (World.block_lt_of_cell? w _ hw266_4)).trans hw266_4), ((HB.out.cell (World.block_lt_of_cell? w _ hw266_5)).trans hw266_5), ((HB.out.cell (World.block_lt_of_cell? w _ hw267_0)).trans hw267_0), ((HB.out.cell (World.block_lt_of_cell? w _ hw267_1)).trans hw267_1), ((HB.out.cell (World.block_lt_of_cell? w _ hw267_2)).trans hw267_2), ((HB.out.cell (World.block_lt_of_cell? w _ hw267_3)).trans hw267_3), ((HB.out.cell (World.block_lt_of_cell? w _ hw267_4)).trans hw267_4), ((HB.out.cell (World.block_lt_of_cell? w _ hw267_5)).trans hw267_5), ((HB.out.cell (World.block_lt_of_cell? w _ hw268_0)).trans hw268_0), ((HB.out.cell (World.block_lt_of_cell? w _ hw268_1)).trans hw268_1), ((HB.out.cell (World.block_lt_of_cell? w _ hw268_2)).trans hw268_2), ((HB.out.cell (World.block_lt_of_cell? w _ hw268_3)).trans hw268_3), ((HB.out.cell (World.block_lt_of_cell? w _ hw268_4)).trans hw268_4), ((HB.out.cell (World.block_lt_of_cell? w _ hw268_5)).trans hw268_5)⟩ (fun hHeld => ?_)
              clear hK K
              refine norm_ (a' := ?_) ?_ ?_
              rotate_left
              ·show Act.put _ (some 59) _ = _
               simp only [Act.put, sA, sB, sC, i64_w, i32_w]
               rfl
              refine pu 35 (some 60) (bt 38 36) HT_ ?_
              refine pu 36 (some 61) (bt 38 37) HT_ ?_
              refine pu 37 (some 62) (bt 38 38) HT_ ?_
              refine done_ (done_of HT_.out (by kernel_rfl)) ?_
              try go_wp2
              go_ret
              exact ⟨by first | rfl | (simp [errW_none, errW_some] <;> rfl) | (simp only [← hji23]; first | rfl | (simp [errW_none, errW_some] <;> rfl)) | (simp [*, errW_none, errW_some] <;> rfl), bbw1 HB GE255⟩
            ·rw [if_neg c25] at H
             exact absurd H (by simp)
           ·rw [if_neg c24] at H
            exact absurd H (by simp)
          ·rw [if_neg c22] at H
           have c22b0 : decide (0 < x7_2) = false := decide_eq_false c22
           clear c22
           have H' := Aside0.mk H
           clear H
           try go_wp2
           replace BK255 := Aside0.mk (blk_drew BK255.out)
           replace HB := Aside0.mk (below_drew1 HB.out)
           have p257 : 0 ≤ (x7_2 : Int) := of_decide_eq_true (by first | (with_reducible assumption) | assumption)
           have q257 : x7_2 < (l2.length : Int) := of_decide_eq_true (by first | (with_reducible assumption) | assumption)
           obtain ⟨ad257, e257, hx257_0, hx257_1, hx257_2, hx257_3, hx257_4, hx257_5⟩ := at_T36 HR2.out x7_2 p257 q257
           have hw257_5 := hx257_5
           have hw257_4 := hx257_4
           have hw257_3 := hx257_3
           have hw257_2 := hx257_2
           have hw257_1 := hx257_1
           have hw257_0 := hx257_0
           cases e257
           replace hx257_0 := (HB.out.cell (World.block_lt_of_cell? w _ hx257_0)).trans hx257_0
           replace hx257_1 := (HB.out.cell (World.block_lt_of_cell? w _ hx257_1)).trans hx257_1
           replace hx257_2 := (HB.out.cell (World.block_lt_of_cell? w _ hx257_2)).trans hx257_2
           replace hx257_3 := (HB.out.cell (World.block_lt_of_cell? w _ hx257_3)).trans hx257_3
           replace hx257_4 := (HB.out.cell (World.block_lt_of_cell? w _ hx257_4)).trans hx257_4
           replace hx257_5 := (HB.out.cell (World.block_lt_of_cell? w _ hx257_5)).trans hx257_5
           replace p257 := eq_true p257
           replace q257 := eq_true q257
           have p259 : 0 ≤ (x7_2 : Int) := of_decide_eq_true (by first | (with_reducible assumption) | assumption)
           have q259 : x7_2 < (l2.length : Int) := of_decide_eq_true (by first | (with_reducible assumption) | assumption)
           obtain ⟨ad259, e259, hx259_0, hx259_1, hx259_2, hx259_3, hx259_4, hx259_5⟩ := at_T36 HR2.out x7_2 p259 q259
           have hw259_5 := hx259_5
           have hw259_4 := hx259_4
           have hw259_3 := hx259_3
           have hw259_2 := hx259_2
           have hw259_1 := hx259_1
           have hw259_0 := hx259_0
           obtain rfl : ad257 = ad259 := (by injection e259)
           replace hx259_0 := (HB.out.cell (World.block_lt_of_cell? w _ hx259_0)).trans hx259_0
           replace hx259_1 := (HB.out.cell (World.block_lt_of_cell? w _ hx259_1)).trans hx259_1
           replace hx259_2 := (HB.out.cell (World.block_lt_of_cell? w _ hx259_2)).trans hx259_2
           replace hx259_3 := (HB.out.cell (World.block_lt_of_cell? w _ hx259_3)).trans hx259_3
           replace hx259_4 := (HB.out.cell (World.block_lt_of_cell? w _ hx259_4)).trans hx259_4
           replace hx259_5 := (HB.out.cell (World.block_lt_of_cell? w _ hx259_5)).trans hx259_5
           replace p259 := eq_true p259
           replace q259 := eq_true q259
           have p266 : 0 ≤ (x7_2 : Int) := of_decide_eq_true (by first | (with_reducible assumption) | assumption)
           have q266 : x7_2 < (l2.length : Int) := of_decide_eq_true (by first | (with_reducible assumption) | assumption)
           obtain ⟨ad266, e266, hx266_0, hx266_1, hx266_2, hx266_3, hx266_4, hx266_5⟩ := at_T36 HR2.out x7_2 p266 q266
           have hw266_5 := hx266_5
           have hw266_4 := hx266_4
           have hw266_3 := hx266_3
           have hw266_2 := hx266_2
           have hw266_1 := hx266_1
           have hw266_0 := hx266_0
           obtain rfl : ad257 = ad266 := (by injection e266)
           replace hx266_0 := (HB.out.cell (World.block_lt_of_cell? w _ hx266_0)).trans hx266_0
           replace hx266_1 := (HB.out.cell (World.block_lt_of_cell? w _ hx266_1)).trans hx266_1
           replace hx266_2 := (HB.out.cell (World.block_lt_of_cell? w _ hx266_2)).trans hx266_2
           replace hx266_3 := (HB.out.cell (World.block_lt_of_cell? w _ hx266_3)).trans hx266_3
           replace hx266_4 := (HB.out.cell (World.block_lt_of_cell? w _ hx266_4)).trans hx266_4
           replace hx266_5 := (HB.out.cell (World.block_lt_of_cell? w _ hx266_5)).trans hx266_5
           replace p266 := eq_true p266
           replace q266 := eq_true q266
           refine start_ (n := 38) (S := fun w' => w'.cell? ⟨gb255, 0, none⟩ = some (.int .i64 a1_0) ∧ w'.cell? ⟨gb255, 1, none⟩ = some (.int .i64 a1_1) ∧ w'.cell? ⟨gb255, 2, none⟩ = some (.int .i64 a1_2) ∧ w'.cell? (ad257.add ((x7_2).toNat * 6)) = some (.int .i64 ((rd_T36 l2 x7_2).f0.f0)) ∧ w'.cell? ⟨(ad257.add ((x7_2).toNat * 6)).block, (ad257.add ((x7_2).toNat * 6)).off + 1, none⟩ = some (.int .i64 ((rd_T36 l2 x7_2).f0.f1)) ∧ w'.cell? ⟨(ad257.add ((x7_2).toNat * 6)).block, (ad257.add ((x7_2).toNat * 6)).off + 2, none⟩ = some (.int .i64 ((rd_T36 l2 x7_2).f0.f2)) ∧ w'.cell? ⟨(ad257.add ((x7_2).toNat * 6)).block, (ad257.add ((x7_2).toNat * 6)).off + 3, none⟩ = some (.int .i64 ((rd_T36 l2 x7_2).f0.f3)) ∧ w'.cell? ⟨(ad257.add ((x7_2).toNat * 6)).block, (ad257.add ((x7_2).toNat * 6)).off + 4, none⟩ = some (.int .i64 ((rd_T36 l2 x7_2).f1.f0)) ∧ w'.cell? ⟨(ad257.add ((x7_2).toNat * 6)).block, (ad257.add ((x7_2).toNat * 6)).off + 5, none⟩ = some (.int .i64 ((rd_T36 l2 x7_2).f1.f1)) ∧ w'.cell? (ad257.add ((x7_2).toNat * 6)) = some (.int .i64 ((rd_T36 l2 x7_2).f0.f0)) ∧ w'.cell? ⟨(ad257.add ((x7_2).toNat * 6)).block, (ad257.add ((x7_2).toNat * 6)).off + 1, none⟩ = some (.int .i64 ((rd_T36 l2 x7_2).f0.f1)) ∧ w'.cell? ⟨(ad257.add ((x7_2).toNat * 6)).block, (ad257.add ((x7_2).toNat * 6)).off + 2, none⟩ = some (.int .i64 ((rd_T36 l2 x7_2).f0.f2)) ∧ w'.cell? ⟨(ad257.add ((x7_2).toNat * 6)).block, (ad257.add ((x7_2).toNat * 6)).off + 3, none⟩ = some (.int .i64 ((rd_T36 l2 x7_2).f0.f3)) ∧ w'.cell? ⟨(ad257.add ((x7_2).toNat * 6)).block, (ad257.add ((x7_2).toNat * 6)).off + 4, none⟩ = some (.int .i64 ((rd_T36 l2 x7_2).f1.f0)) ∧ w'.cell? ⟨(ad257.add ((x7_2).toNat * 6)).block, (ad257.add ((x7_2).toNat * 6)).off + 5, none⟩ = some (.int .i64 ((rd_T36 l2 x7_2).f1.f1)) ∧ w'.cell? (ad257.add ((x7_2).toNat * 6)) = some (.int .i64 ((rd_T36 l2 x7_2).f0.f0)) ∧ w'.cell? ⟨(ad257.add ((x7_2).toNat * 6)).block, (ad257.add ((x7_2).toNat * 6)).off + 1, none⟩ = some (.int .i64 ((rd_T36 l2 x7_2).f0.f1)) ∧ w'.cell? ⟨(ad257.add ((x7_2).toNat * 6)).block, (ad257.add ((x7_2).toNat * 6)).off + 2, none⟩ = some (.int .i64 ((rd_T36 l2 x7_2).f0.f2)) ∧ w'.cell? ⟨(ad257.add ((x7_2).toNat * 6)).block, (ad257.add ((x7_2).toNat * 6)).off + 3, none⟩ = some (.int .i64 ((rd_T36 l2 x7_2).f0.f3)) ∧ w'.cell? ⟨(ad257.add ((x7_2).toNat * 6)).block, (ad257.add ((x7_2).toNat * 6)).off + 4, none⟩ = some (.int .i64 ((rd_T36 l2 x7_2).f1.f0)) ∧ w'.cell? ⟨(ad257.add ((x7_2).toNat * 6)).block, (ad257.add ((x7_2).toNat * 6)).off + 5, none⟩ = some (.int .i64 ((rd_T36 l2 x7_2).f1.f1))) (ds := []) (bt 38 0) (by kernel_rfl) rfl rfl ⟨bcl BK255 0, bcl BK255 1, bcl BK255 2, ((HB.out.cell (World.block_lt_of_cell? w _ hw257_0)).trans hw257_0), ((HB.out.cell (World.block_lt_of_cell? w _ hw257_1)).trans hw257_1), ((HB.out.cell (World.block_lt_of_cell? w _ hw257_2)).trans hw257_2), ((HB.out.cell (World.block_lt_of_cell? w _ hw257_3)).trans hw257_3), ((HB.out.cell (World.block_lt_of_cell? w _ hw257_4)).trans hw257_4), ((HB.out.cell (World.block_lt_of_cell? w _ hw257_5)).trans hw257_5), ((HB.out.cell (World.block_lt_of_cell? w _ hw259_0)).trans hw259_0), ((HB.out.cell (World.block_lt_of_cell? w _ hw259_1)).trans hw259_1), ((HB.out.cell (World.block_lt_of_cell? w _ hw259_2)).trans hw259_2), ((HB.out.cell (World.block_lt_of_cell? w _ hw259_3)).trans hw259_3), ((HB.out.cell (World.block_lt_of_cell? w _ hw259_4)).trans hw259_4), ((HB.out.cell (World.block_lt_of_cell? w _ hw259_5)).trans hw259_5), ((HB.out.cell (World.block_lt_of_cell? w _ hw266_0)).trans hw266_0), ((HB.out.cell (World.block_lt_of_cell? w _ hw266_1)).trans hw266_1), ((HB.out.cell (World.block_lt_of_cell? w _ hw266_2)).trans hw266_2), ((HB.out.cell (World.block_lt_of_cell? w _ hw266_3)).trans hw266_3), ((HB.out.cell (World.block_lt_of_cell? w _ hw266_4)).trans hw266_4), ((HB.out.cell (World.block_lt_of_cell? w _ hw266_5)).trans hw266_5)⟩ (fun hHeld => ?_); refine with_tabW spec_IsGroup.tab6 spec_IsGroup.bits6 (fun HT_ HW_ => ?_)
           generalize wr.drew = w36 at BK255 HB hx257_0 hx257_1 hx257_2 hx257_3 hx257_4 hx257_5 hx259_0 hx259_1 hx259_2 hx259_3 hx259_4 hx259_5 hx266_0 hx266_1 hx266_2 hx266_3 hx266_4 hx266_5 hHeld ⊢
           refine pu 0 (some 25) (bt 38 1) HT_ ?_
           refine pu 2 (some 27) #[true, false, true, false, false, false, false, false, false, false, false, false, false, false, false, false, false, false, false, false, false, false, false, false, false, false, false, false, false, false, false, false, false, false, false, false, false, false] HT_ ?_
           refine pu 3 (some 28) #[true, false, true, true, false, false, false, false, false, false, false, false, false, false, false, false, false, false, false, false, false, false, false, false, false, false, false, false, false, false, false, false, false, false, false, false, false, false] HT_ ?_
           refine pu 4 (some 29) #[true, false, true, true, true, false, false, false, false, false, false, false, false, false, false, false, false, false, false, false, false, false, false, false, false, false, false, false, false, false, false, false, false, false, false, false, false, false] HT_ ?_
           refine ta 1 (some 26) (bt 38 5) HT_ HW_ hHeld ?_
           refine ta 5 (some 30) (bt 38 6) HT_ HW_ hHeld ?_
           refine one_ (i := 6) (N := some 31) (bt 38 7) rfl rfl (one_of HT_.out (by kernel_rfl)) (by decide) (fun K hK => ?_)
           refine goes_ Try.func11 (by kernel_rfl) rfl #[.int .i64 a0, .agg #[.int .i64 a1_0, .int .i64 a1_1, .int .i64 a1_2], .agg #[.int .i64 ((rd_T36 l2 x7_2).f0.f0), .int .i64 ((rd_T36 l2 x7_2).f0.f1), .int .i64 ((rd_T36 l2 x7_2).f0.f2), .int .i64 ((rd_T36 l2 x7_2).f0.f3), .int .i64 ((rd_T36 l2 x7_2).f1.f0), .int .i64 ((rd_T36 l2 x7_2).f1.f1)]] (by rfl) rfl rfl (by (try simp only [List.map_toArray, List.map_cons, List.map_nil]); first | done | rfl | (simp only [List.length_drop, List.length_take]; rfl)) ?_
           with_reducible refine (spec_IsSuitable.calls k2 a0 a1_0 a1_1 a1_2 ((rd_T36 l2 x7_2).f0.f0) ((rd_T36 l2 x7_2).f0.f1) ((rd_T36 l2 x7_2).f0.f2) ((rd_T36 l2 x7_2).f0.f3) ((rd_T36 l2 x7_2).f1.f0) ((rd_T36 l2 x7_2).f1.f1) true _ A15.out).mono ?_
           rintro e w37 ⟨rfl, hb⟩
           refine ⟨_, rfl, ?_⟩
           replace BK255 := Aside0.mk (bbl BK255 hb)
           replace HB := Aside0.mk (bst1 HB GE255 hb)
           (try clear hb)
           (try clear hb2)
           (try clear hk)
           (try clear hi)
           refine hK.out _ _ ⟨bcl BK255 0, bcl BK255 1, bcl BK255 2, ((HB.out.cell (World.block_lt_of_cell? w _ hw257_0)).trans hw257_0), ((HB.out.cell (World.block_lt_of_cell? w _ hw257_1)).trans hw257_1), ((HB.out.cell (World.block_lt_of_cell? w _ hw257_2)).trans hw257_2), ((HB.out.cell (World.block_lt_of_cell? w _ hw257_3)).trans hw257_3), ((HB.out.cell (World.block_lt_of_cell? w _ hw257_4)).trans hw257_4), ((HB.out.cell (World.block_lt_of_cell? w _ hw257_5)).trans hw257_5), ((HB.out.cell (World.block_lt_of_cell? w _ hw259_0)).trans hw259_0), ((HB.out.cell (World.block_lt_of_cell? w _ hw259_1)).trans hw259_1), ((HB.out.cell (World.block_lt_of_cell? w _ hw259_2)).trans hw259_2), ((HB.out.cell (World.block_lt_of_cell? w _ hw259_3)).trans hw259_3), ((HB.out.cell (World.block_lt_of_cell? w _ hw259_4)).trans hw259_4), ((HB.out.cell (World.block_lt_of_cell? w _ hw259_5)).trans hw259_5), ((HB.out.cell (World.block_lt_of_cell? w _ hw266_0)).trans hw266_0), ((HB.out.cell (World.block_lt_of_cell? w _ hw266_1)).trans hw266_1), ((HB.out.cell (World.block_lt_of_cell? w _ hw266_2)).trans hw266_2), ((HB.out.cell (World.block_lt_of_cell? w _ hw266_3)).trans hw266_3), ((HB.out.cell (World.block_lt_of_cell? w _ hw266_4)).trans hw266_4), ((HB.out.cell (World.block_lt_of_cell? w _ hw266_5)).trans hw266_5)⟩ (fun hHeld => ?_)
           clear hK K
           refine norm_ (a' := ?_) ?_ ?_
           rotate_left
           ·show Act.put _ (some 31) _ = _
            simp only [Act.put, sA, sB, sC, i64_w, i32_w]
            rfl
           refine pu 7 (some 32) (bt 38 8) HT_ ?_
           refine pu 8 (some 33) (bt 38 9) HT_ ?_
           refine pu 10 (some 35) #[true, true, true, true, true, true, true, true, true, false, true, false, false, false, false, false, false, false, false, false, false, false, false, false, false, false, false, false, false, false, false, false, false, false, false, false, false, false] HT_ ?_
           refine pu 11 (some 36) #[true, true, true, true, true, true, true, true, true, false, true, true, false, false, false, false, false, false, false, false, false, false, false, false, false, false, false, false, false, false, false, false, false, false, false, false, false, false] HT_ ?_
           refine pu 12 (some 37) #[true, true, true, true, true, true, true, true, true, false, true, true, true, false, false, false, false, false, false, false, false, false, false, false, false, false, false, false, false, false, false, false, false, false, false, false, false, false] HT_ ?_
           refine pu 15 (some 40) #[true, true, true, true, true, true, true, true, true, false, true, true, true, false, false, true, false, false, false, false, false, false, false, false, false, false, false, false, false, false, false, false, false, false, false, false, false, false] HT_ ?_
           refine pu 16 (some 41) #[true, true, true, true, true, true, true, true, true, false, true, true, true, false, false, true, true, false, false, false, false, false, false, false, false, false, false, false, false, false, false, false, false, false, false, false, false, false] HT_ ?_
           refine pu 17 (some 42) #[true, true, true, true, true, true, true, true, true, false, true, true, true, false, false, true, true, true, false, false, false, false, false, false, false, false, false, false, false, false, false, false, false, false, false, false, false, false] HT_ ?_
           refine ta 9 (some 34) #[true, true, true, true, true, true, true, true, true, true, true, true, true, false, false, true, true, true, false, false, false, false, false, false, false, false, false, false, false, false, false, false, false, false, false, false, false, false] HT_ HW_ hHeld ?_
           refine ta 13 (some 38) #[true, true, true, true, true, true, true, true, true, true, true, true, true, true, false, true, true, true, false, false, false, false, false, false, false, false, false, false, false, false, false, false, false, false, false, false, false, false] HT_ HW_ hHeld ?_
           refine ta 18 (some 43) #[true, true, true, true, true, true, true, true, true, true, true, true, true, true, false, true, true, true, true, false, false, false, false, false, false, false, false, false, false, false, false, false, false, false, false, false, false, false] HT_ HW_ hHeld ?_
           refine one_ (i := 14) (N := some 39) (bt 38 19) rfl rfl (one_of HT_.out (by kernel_rfl)) (by decide) (fun K hK => ?_)
           refine goes_ Try.func46 (by kernel_rfl) rfl #[.agg #[.int .i64 a1_0, .int .i64 a1_1, .int .i64 a1_2], .agg #[.int .i64 ((rd_T36 l2 x7_2).f0.f0), .int .i64 ((rd_T36 l2 x7_2).f0.f1), .int .i64 ((rd_T36 l2 x7_2).f0.f2), .int .i64 ((rd_T36 l2 x7_2).f0.f3), .int .i64 ((rd_T36 l2 x7_2).f1.f0), .int .i64 ((rd_T36 l2 x7_2).f1.f1)]] (by rfl) rfl rfl (by (try simp only [List.map_toArray, List.map_cons, List.map_nil]); first | done | rfl | (simp only [List.length_drop, List.length_take]; rfl)) ?_
           with_reducible refine (spec_l06Reduce.calls a1_0 a1_1 a1_2 ((rd_T36 l2 x7_2).f0.f0) ((rd_T36 l2 x7_2).f0.f1) ((rd_T36 l2 x7_2).f0.f2) ((rd_T36 l2 x7_2).f0.f3) ((rd_T36 l2 x7_2).f1.f0) ((rd_T36 l2 x7_2).f1.f1) t260 t261 t262 t263 t264 t265 _ A17.out).mono ?_
           rintro e w38 ⟨rfl, hb⟩
           refine ⟨_, rfl, ?_⟩
           replace BK255 := Aside0.mk (bbl BK255 hb)
           replace HB := Aside0.mk (bst1 HB GE255 hb)
           (try clear hb)
           (try clear hb2)
           (try clear hk)
           (try clear hi)
           refine hK.out _ _ ⟨bcl BK255 0, bcl BK255 1, bcl BK255 2, ((HB.out.cell (World.block_lt_of_cell? w _ hw257_0)).trans hw257_0), ((HB.out.cell (World.block_lt_of_cell? w _ hw257_1)).trans hw257_1), ((HB.out.cell (World.block_lt_of_cell? w _ hw257_2)).trans hw257_2), ((HB.out.cell (World.block_lt_of_cell? w _ hw257_3)).trans hw257_3), ((HB.out.cell (World.block_lt_of_cell? w _ hw257_4)).trans hw257_4), ((HB.out.cell (World.block_lt_of_cell? w _ hw257_5)).trans hw257_5), ((HB.out.cell (World.block_lt_of_cell? w _ hw259_0)).trans hw259_0), ((HB.out.cell (World.block_lt_of_cell? w _ hw259_1)).trans hw259_1), ((HB.out.cell (World.block_lt_of_cell? w _ hw259_2)).trans hw259_2), ((HB.out.cell (World.block_lt_of_cell? w _ hw259_3)).trans hw259_3), ((HB.out.cell (World.block_lt_of_cell? w _ hw259_4)).trans hw259_4), ((HB.out.cell (World.block_lt_of_cell? w _ hw259_5)).trans hw259_5), ((HB.out.cell (World.block_lt_of_cell? w _ hw266_0)).trans hw266_0), ((HB.out.cell (World.block_lt_of_cell? w _ hw266_1)).trans hw266_1), ((HB.out.cell (World.block_lt_of_cell? w _ hw266_2)).trans hw266_2), ((HB.out.cell (World.block_lt_of_cell? w _ hw266_3)).trans hw266_3), ((HB.out.cell (World.block_lt_of_cell? w _ hw266_4)).trans hw266_4), ((HB.out.cell (World.block_lt_of_cell? w _ hw266_5)).trans hw266_5)⟩ (fun hHeld => ?_)
           clear hK K
           refine norm_ (a' := ?_) ?_ ?_
           rotate_left
           ·show Act.put _ (some 39) _ = _
            simp only [Act.put, sA, sB, sC, i64_w, i32_w]
            rfl
           refine pu 19 (some 44) (bt 38 20) HT_ ?_
           refine pu 20 (some 45) (bt 38 21) HT_ ?_
           refine pu 21 (some 46) (bt 38 22) HT_ ?_
           refine pu 22 (some 47) (bt 38 23) HT_ ?_
           refine pu 23 (some 48) (bt 38 24) HT_ ?_
           refine pu 24 (some 49) (bt 38 25) HT_ ?_
           refine pf 25 (some 50) (bt 38 26) HT_ ?_
           refine pf 26 (some 51) (bt 38 27) HT_ ?_
           refine pf 27 (some 52) (bt 38 28) HT_ ?_
           refine pf 28 (some 53) (bt 38 29) HT_ ?_
           refine pf 29 (some 54) (bt 38 30) HT_ ?_
           refine pf 30 (some 55) (bt 38 31) HT_ ?_
           refine pf 31 (some 56) (bt 38 32) HT_ ?_
           refine pf 32 (some 57) (bt 38 33) HT_ ?_
           refine pf 33 (some 58) (bt 38 34) HT_ ?_
           refine pf 34 (some 59) (bt 38 35) HT_ ?_
           refine pf 35 (some 60) (bt 38 36) HT_ ?_
           refine pu 36 (some 61) (bt 38 37) HT_ ?_
           refine pu 37 (some 62) (bt 38 38) HT_ ?_
           refine done_ (done_of HT_.out (by kernel_rfl)) ?_
           try go_wp2
           go_roundg k2
           case measure => have := HJ3.out; have := HK2.out; omega
           case rel => exact ⟨(wrap64 (x7_2 + 1)), (by first | rfl | (simp; done) | (simp [*]; done)), H', ⟨by have := HJ3.out; have := HK2.out; omega⟩, ⟨bkp BK255⟩, ⟨bbw1 HB GE255⟩⟩
        ·replace c16 := Bool.eq_false_iff.mpr c16
         subst c16
         have H1 : (some false) = some r := by rw [if_neg (show ¬ (false = true) by decide)] at H; first | done | exact H
         clear H
         have H := H1
         clear H1
         obtain rfl := Option.some.inj H
         try go_wp2
         replace BK255 := Aside0.mk (blk_drew BK255.out)
         replace HB := Aside0.mk (below_drew1 HB.out)
         have p257 : 0 ≤ (x7_2 : Int) := of_decide_eq_true (by first | (with_reducible assumption) | assumption)
         have q257 : x7_2 < (l2.length : Int) := of_decide_eq_true (by first | (with_reducible assumption) | assumption)
         obtain ⟨ad257, e257, hx257_0, hx257_1, hx257_2, hx257_3, hx257_4, hx257_5⟩ := at_T36 HR2.out x7_2 p257 q257
         have hw257_5 := hx257_5
         have hw257_4 := hx257_4
         have hw257_3 := hx257_3
         have hw257_2 := hx257_2
         have hw257_1 := hx257_1
         have hw257_0 := hx257_0
         cases e257
         replace hx257_0 := (HB.out.cell (World.block_lt_of_cell? w _ hx257_0)).trans hx257_0
         replace hx257_1 := (HB.out.cell (World.block_lt_of_cell? w _ hx257_1)).trans hx257_1
         replace hx257_2 := (HB.out.cell (World.block_lt_of_cell? w _ hx257_2)).trans hx257_2
         replace hx257_3 := (HB.out.cell (World.block_lt_of_cell? w _ hx257_3)).trans hx257_3
         replace hx257_4 := (HB.out.cell (World.block_lt_of_cell? w _ hx257_4)).trans hx257_4
         replace hx257_5 := (HB.out.cell (World.block_lt_of_cell? w _ hx257_5)).trans hx257_5
         replace p257 := eq_true p257
         replace q257 := eq_true q257
         refine start_ (n := 38) (S := fun w' => w'.cell? ⟨gb255, 0, none⟩ = some (.int .i64 a1_0) ∧ w'.cell? ⟨gb255, 1, none⟩ = some (.int .i64 a1_1) ∧ w'.cell? ⟨gb255, 2, none⟩ = some (.int .i64 a1_2) ∧ w'.cell? (ad257.add ((x7_2).toNat * 6)) = some (.int .i64 ((rd_T36 l2 x7_2).f0.f0)) ∧ w'.cell? ⟨(ad257.add ((x7_2).toNat * 6)).block, (ad257.add ((x7_2).toNat * 6)).off + 1, none⟩ = some (.int .i64 ((rd_T36 l2 x7_2).f0.f1)) ∧ w'.cell? ⟨(ad257.add ((x7_2).toNat * 6)).block, (ad257.add ((x7_2).toNat * 6)).off + 2, none⟩ = some (.int .i64 ((rd_T36 l2 x7_2).f0.f2)) ∧ w'.cell? ⟨(ad257.add ((x7_2).toNat * 6)).block, (ad257.add ((x7_2).toNat * 6)).off + 3, none⟩ = some (.int .i64 ((rd_T36 l2 x7_2).f0.f3)) ∧ w'.cell? ⟨(ad257.add ((x7_2).toNat * 6)).block, (ad257.add ((x7_2).toNat * 6)).off + 4, none⟩ = some (.int .i64 ((rd_T36 l2 x7_2).f1.f0)) ∧ w'.cell? ⟨(ad257.add ((x7_2).toNat * 6)).block, (ad257.add ((x7_2).toNat * 6)).off + 5, none⟩ = some (.int .i64 ((rd_T36 l2 x7_2).f1.f1))) (ds := []) (bt 38 0) (by kernel_rfl) rfl rfl ⟨bcl BK255 0, bcl BK255 1, bcl BK255 2, ((HB.out.cell (World.block_lt_of_cell? w _ hw257_0)).trans hw257_0), ((HB.out.cell (World.block_lt_of_cell? w _ hw257_1)).trans hw257_1), ((HB.out.cell (World.block_lt_of_cell? w _ hw257_2)).trans hw257_2), ((HB.out.cell (World.block_lt_of_cell? w _ hw257_3)).trans hw257_3), ((HB.out.cell (World.block_lt_of_cell? w _ hw257_4)).trans hw257_4), ((HB.out.cell (World.block_lt_of_cell? w _ hw257_5)).trans hw257_5)⟩ (fun hHeld => ?_); refine with_tabW spec_IsGroup.tab6 spec_IsGroup.bits6 (fun HT_ HW_ => ?_)
         generalize wr.drew = w39 at BK255 HB hx257_0 hx257_1 hx257_2 hx257_3 hx257_4 hx257_5 hHeld ⊢
         refine pu 0 (some 25) (bt 38 1) HT_ ?_
         refine pu 2 (some 27) #[true, false, true, false, false, false, false, false, false, false, false, false, false, false, false, false, false, false, false, false, false, false, false, false, false, false, false, false, false, false, false, false, false, false, false, false, false, false] HT_ ?_
         refine pu 3 (some 28) #[true, false, true, true, false, false, false, false, false, false, false, false, false, false, false, false, false, false, false, false, false, false, false, false, false, false, false, false, false, false, false, false, false, false, false, false, false, false] HT_ ?_
         refine pu 4 (some 29) #[true, false, true, true, true, false, false, false, false, false, false, false, false, false, false, false, false, false, false, false, false, false, false, false, false, false, false, false, false, false, false, false, false, false, false, false, false, false] HT_ ?_
         refine ta 1 (some 26) (bt 38 5) HT_ HW_ hHeld ?_
         refine ta 5 (some 30) (bt 38 6) HT_ HW_ hHeld ?_
         refine one_ (i := 6) (N := some 31) (bt 38 7) rfl rfl (one_of HT_.out (by kernel_rfl)) (by decide) (fun K hK => ?_)
         refine goes_ Try.func11 (by kernel_rfl) rfl #[.int .i64 a0, .agg #[.int .i64 a1_0, .int .i64 a1_1, .int .i64 a1_2], .agg #[.int .i64 ((rd_T36 l2 x7_2).f0.f0), .int .i64 ((rd_T36 l2 x7_2).f0.f1), .int .i64 ((rd_T36 l2 x7_2).f0.f2), .int .i64 ((rd_T36 l2 x7_2).f0.f3), .int .i64 ((rd_T36 l2 x7_2).f1.f0), .int .i64 ((rd_T36 l2 x7_2).f1.f1)]] (by rfl) rfl rfl (by (try simp only [List.map_toArray, List.map_cons, List.map_nil]); first | done | rfl | (simp only [List.length_drop, List.length_take]; rfl)) ?_
         with_reducible refine (spec_IsSuitable.calls k2 a0 a1_0 a1_1 a1_2 ((rd_T36 l2 x7_2).f0.f0) ((rd_T36 l2 x7_2).f0.f1) ((rd_T36 l2 x7_2).f0.f2) ((rd_T36 l2 x7_2).f0.f3) ((rd_T36 l2 x7_2).f1.f0) ((rd_T36 l2 x7_2).f1.f1) false _ A15.out).mono ?_
         rintro e w40 ⟨rfl, hb⟩
         refine ⟨_, rfl, ?_⟩
         replace BK255 := Aside0.mk (bbl BK255 hb)
         replace HB := Aside0.mk (bst1 HB GE255 hb)
         (try clear hb)
         (try clear hb2)
         (try clear hk)
         (try clear hi)
         refine hK.out _ _ ⟨bcl BK255 0, bcl BK255 1, bcl BK255 2, ((HB.out.cell (World.block_lt_of_cell? w _ hw257_0)).trans hw257_0), ((HB.out.cell (World.block_lt_of_cell? w _ hw257_1)).trans hw257_1), ((HB.out.cell (World.block_lt_of_cell? w _ hw257_2)).trans hw257_2), ((HB.out.cell (World.block_lt_of_cell? w _ hw257_3)).trans hw257_3), ((HB.out.cell (World.block_lt_of_cell? w _ hw257_4)).trans hw257_4), ((HB.out.cell (World.block_lt_of_cell? w _ hw257_5)).trans hw257_5)⟩ (fun hHeld => ?_)
         clear hK K
         refine norm_ (a' := ?_) ?_ ?_
         rotate_left
         ·show Act.put _ (some 31) _ = _
          simp only [Act.put, sA, sB, sC, i64_w, i32_w]
          rfl
         refine pu 7 (some 32) (bt 38 8) HT_ ?_
         refine pu 8 (some 33) (bt 38 9) HT_ ?_
         refine pf 9 (some 34) (bt 38 10) HT_ ?_
         refine pf 10 (some 35) (bt 38 11) HT_ ?_
         refine pf 11 (some 36) (bt 38 12) HT_ ?_
         refine pf 12 (some 37) (bt 38 13) HT_ ?_
         refine pf 13 (some 38) (bt 38 14) HT_ ?_
         refine pf 14 (some 39) (bt 38 15) HT_ ?_
         refine pf 15 (some 40) (bt 38 16) HT_ ?_
         refine pf 16 (some 41) (bt 38 17) HT_ ?_
         refine pf 17 (some 42) (bt 38 18) HT_ ?_
         refine pf 18 (some 43) (bt 38 19) HT_ ?_
         refine pf 19 (some 44) (bt 38 20) HT_ ?_
         refine pu 20 (some 45) (bt 38 21) HT_ ?_
         refine pu 21 (some 46) (bt 38 22) HT_ ?_
         refine pf 22 (some 47) (bt 38 23) HT_ ?_
         refine pf 23 (some 48) (bt 38 24) HT_ ?_
         refine pf 24 (some 49) (bt 38 25) HT_ ?_
         refine pf 25 (some 50) (bt 38 26) HT_ ?_
         refine pf 26 (some 51) (bt 38 27) HT_ ?_
         refine pf 27 (some 52) (bt 38 28) HT_ ?_
         refine pf 28 (some 53) (bt 38 29) HT_ ?_
         refine pf 29 (some 54) (bt 38 30) HT_ ?_
         refine pf 30 (some 55) (bt 38 31) HT_ ?_
         refine pf 31 (some 56) (bt 38 32) HT_ ?_
         refine pf 32 (some 57) (bt 38 33) HT_ ?_
         refine pf 33 (some 58) (bt 38 34) HT_ ?_
         refine pf 34 (some 59) (bt 38 35) HT_ ?_
         refine pf 35 (some 60) (bt 38 36) HT_ ?_
         refine pf 36 (some 61) (bt 38 37) HT_ ?_
         refine pu 37 (some 62) (bt 38 38) HT_ ?_
         refine done_ (done_of HT_.out (by kernel_rfl)) ?_
         try go_wp2
         go_ret
         exact ⟨by first | rfl | (simp [errW_none, errW_some] <;> rfl) | (simp [*, errW_none, errW_some] <;> rfl), bbw1 HB GE255⟩
       ·rw [if_neg c14] at H
        exact absurd H (by simp)
      ·rw [if_neg c13] at H
       have c13b0 : decide (x7_2 < (l2.length : Int)) = false := decide_eq_false c13
       clear c13
       replace H := Option.bind_eq_some_iff.mp H
       obtain ⟨⟨t270, t271, t272, t273, t274, t275⟩, A410, H⟩ := H
       replace H : ((spec_l06Has.f k2 l2 t270 t271 t272 t273 t274 t275).bind fun t276 => (if t276 = true then (spec_IsGroup.l1 k2 l2 0 a1_0 a1_1 a1_2) else (some false))) = some r := H
       have A41 := Aside0.mk A410
       clear A410
       replace H := Option.bind_eq_some_iff.mp H
       obtain ⟨t276, A420, H⟩ := H
       replace H : (if t276 = true then (spec_IsGroup.l1 k2 l2 0 a1_0 a1_1 a1_2) else (some false)) = some r := H
       have A42 := Aside0.mk A420
       clear A420
       by_cases c43 : t276 = true
       ·subst c43
        have H1 : (spec_IsGroup.l1 k2 l2 0 a1_0 a1_1 a1_2) = some r := by rw [if_pos rfl] at H; first | done | exact H
        clear H
        have H := H1
        clear H1
        have H' := Aside0.mk H
        clear H
        go_wp2_with (first | ((with_reducible refine gate_callee (f := 63) rfl ?_); refine goesL_ (some 64) rfl rfl Try.func63 (by kernel_rfl) rfl #[] rfl (by (try simp only [List.map_toArray, List.map_cons, List.map_nil]); first | done | rfl | (simp only [List.length_drop, List.length_take]; rfl)) ?_; (with_reducible refine (spec_l06Unit.calls  t270 t271 t272 t273 t274 t275 _ A41.out).mono ?_); rintro e w44 ⟨rfl, hb⟩; refine ⟨_, rfl, ?_⟩; replace BK255 := Aside0.mk (bbl BK255 hb); replace HB := Aside0.mk (bst1 HB GE255 hb); (try clear hb); (try clear hb2); (try clear hk); (try clear hi)) | ((with_reducible refine gate_callee (f := 62) rfl ?_); refine goesL_ (some 65) rfl rfl Try.func62 (by kernel_rfl) rfl #[.slice A2 l2.length c2, .agg #[.int .i64 t270, .int .i64 t271, .int .i64 t272, .int .i64 t273, .int .i64 t274, .int .i64 t275]] rfl (by (try simp only [List.map_toArray, List.map_cons, List.map_nil]); first | done | rfl | (simp only [List.length_drop, List.length_take]; rfl)) ?_; (with_reducible refine (spec_l06Has.calls k2 _ _ l2 t270 t271 t272 t273 t274 t275 true _ ?side1 ?side2 A42.out).mono ?_); (case side1 => repeat (first | exact (Kd.C_below HR2.out HB.out) | (with_reducible refine Kd.C_alloc ?_ _) | (with_reducible refine Kd.C_drewN ?_ _) | (with_reducible refine Kd.C_drew ?_))); (case side2 => exact HC2.out); rintro e w45 ⟨rfl, hb⟩; refine ⟨_, rfl, ?_⟩; replace BK255 := Aside0.mk (bbl BK255 hb); replace HB := Aside0.mk (bst1 HB GE255 hb); (try clear hb); (try clear hb2); (try clear hk); (try clear hi)))
        go_loopg [8] k2 (fun kq v8 w' => ∃ (x8_3 : Int), v8 = .int .i64 x8_3 ∧ Aside0 (spec_IsGroup.l1 kq l2 x8_3 a1_0 a1_1 a1_2 = some r) ∧ Aside0 (kq ≤ k2) ∧ Aside0 (w'.heap[gb255]? = some (.cells #[.int .i64 a1_0, .int .i64 a1_1, .int .i64 a1_2] 31 (0, 0))) ∧ Aside0 (Below w.heap.size w w'))
        case atStart => exact ⟨(0), (by first | rfl | (simp; done) | (simp [*]; done)), H', ⟨Nat.le_refl _⟩, ⟨bkp BK255⟩, ⟨bbw1 HB GE255⟩⟩
        case round =>
         clear H'
         try clear c1
         try clear c2
         try clear p2
         try clear q2
         try clear hx2
         try clear c4
         try clear c6
         try clear p6
         try clear c11
         try clear c13
         try clear c13b0
         try clear c14
         try clear c16
         try clear p25
         try clear q25
         try clear hx25
         try clear p26
         try clear q26
         try clear hx26
         try clear c43
         try clear hx257_0
         try clear hx257_1
         try clear hx257_2
         try clear hx257_3
         try clear hx257_4
         try clear hx257_5
         try clear hx259_0
         try clear hx259_1
         try clear hx259_2
         try clear hx259_3
         try clear hx259_4
         try clear hx259_5
         try clear hx266_0
         try clear hx266_1
         try clear hx266_2
         try clear hx266_3
         try clear hx266_4
         try clear hx266_5
         try clear p257
         try clear p259
         try clear p266
         try clear q257
         try clear q259
         try clear q266
         obtain ⟨x8_3, rfl, HA, HK3, BK255, HB⟩ := hrel
         cases gk with
         | zero => exact absurd HA.out (by simp [spec_IsGroup.l1])
         | succ k3 =>
          have H := HA.out
          clear HA
          simp only [spec_IsGroup.l1] at H
          by_cases c46 : x8_3 < (l2.length : Int)
          ·rw [if_pos c46] at H
           have c46b0 : decide (x8_3 < (l2.length : Int)) = true := decide_eq_true c46
           clear c46
           have H' := Aside0.mk H
           clear H
           go_wp2
           go_loopg [9] k3 (fun kq v9 w' => ∃ (x9_4 : Int), v9 = .int .i64 x9_4 ∧ Aside0 (spec_IsGroup.l2 kq l2 x8_3 x9_4 a1_0 a1_1 a1_2 = some r) ∧ Aside0 (kq ≤ k3) ∧ Aside0 (w'.heap[gb255]? = some (.cells #[.int .i64 a1_0, .int .i64 a1_1, .int .i64 a1_2] 31 (0, 0))) ∧ Aside0 (Below w.heap.size w w'))
           case atStart => exact ⟨(0), (by first | rfl | (simp; done) | (simp [*]; done)), H', ⟨Nat.le_refl _⟩, ⟨bkp BK255⟩, ⟨bbw1 HB GE255⟩⟩
           case round =>
            clear H'
            try clear c1
            try clear c2
            try clear p2
            try clear q2
            try clear hx2
            try clear c4
            try clear c6
            try clear p6
            try clear c11
            try clear c13
            try clear c13b0
            try clear c14
            try clear c16
            try clear p25
            try clear q25
            try clear hx25
            try clear p26
            try clear q26
            try clear hx26
            try clear c43
            try clear c46
            try clear c46b0
            try clear hx257_0
            try clear hx257_1
            try clear hx257_2
            try clear hx257_3
            try clear hx257_4
            try clear hx257_5
            try clear hx259_0
            try clear hx259_1
            try clear hx259_2
            try clear hx259_3
            try clear hx259_4
            try clear hx259_5
            try clear hx266_0
            try clear hx266_1
            try clear hx266_2
            try clear hx266_3
            try clear hx266_4
            try clear hx266_5
            try clear p2
            try clear p25
            try clear p257
            try clear p259
            try clear p26
            try clear p266
            try clear p6
            try clear q2
            try clear q25
            try clear q257
            try clear q259
            try clear q26
            try clear q266
            obtain ⟨x9_4, rfl, HA, HK4, BK255, HB⟩ := hrel
            cases gk with
            | zero => exact absurd HA.out (by simp [spec_IsGroup.l2])
            | succ k4 =>
             have H := HA.out
             clear HA
             simp only [spec_IsGroup.l2] at H
             by_cases c47 : x9_4 < (l2.length : Int)
             ·rw [if_pos c47] at H
              have c47b0 : decide (x9_4 < (l2.length : Int)) = true := decide_eq_true c47
              clear c47
              by_cases c48 : 0 ≤ x8_3
              ·rw [if_pos c48] at H
               have c48b0 : decide (0 ≤ x8_3) = true := decide_eq_true c48
               clear c48
               by_cases c49 : x8_3 < (l2.length : Int)
               ·rw [if_pos c49] at H
                have c49b0 : decide (x8_3 < (l2.length : Int)) = true := decide_eq_true c49
                clear c49
                by_cases c50 : 0 ≤ x9_4
                ·rw [if_pos c50] at H
                 have c50b0 : decide (0 ≤ x9_4) = true := decide_eq_true c50
                 clear c50
                 replace H := Option.bind_eq_some_iff.mp H
                 obtain ⟨⟨t279, t280, t281, t282, t283, t284⟩, A510, H⟩ := H
                 replace H : ((spec_l06Reduce.f a1_0 a1_1 a1_2 t279 t280 t281 t282 t283 t284).bind fun bt285 => ((spec_l06Has.f k4 l2 bt285.1 bt285.2.1 bt285.2.2.1 bt285.2.2.2.1 bt285.2.2.2.2.1 bt285.2.2.2.2.2).bind fun t291 => (if t291 = true then (spec_IsGroup.l2 k4 l2 x8_3 (wrap64 (x9_4 + 1)) a1_0 a1_1 a1_2) else (some false)))) = some r := H
                 have A51 := Aside0.mk A510
                 clear A510
                 replace H := Option.bind_eq_some_iff.mp H
                 obtain ⟨⟨t285, t286, t287, t288, t289, t290⟩, A520, H⟩ := H
                 replace H : ((spec_l06Has.f k4 l2 t285 t286 t287 t288 t289 t290).bind fun t291 => (if t291 = true then (spec_IsGroup.l2 k4 l2 x8_3 (wrap64 (x9_4 + 1)) a1_0 a1_1 a1_2) else (some false))) = some r := H
                 have A52 := Aside0.mk A520
                 clear A520
                 replace H := Option.bind_eq_some_iff.mp H
                 obtain ⟨t291, A530, H⟩ := H
                 replace H : (if t291 = true then (spec_IsGroup.l2 k4 l2 x8_3 (wrap64 (x9_4 + 1)) a1_0 a1_1 a1_2) else (some false)) = some r := H
                 have A53 := Aside0.mk A530
                 clear A530
                 by_cases c54 : t291 = true
                 ·subst c54
                  have H1 : (spec_IsGroup.l2 k4 l2 x8_3 (wrap64 (x9_4 + 1)) a1_0 a1_1 a1_2) = some r := by rw [if_pos rfl] at H; first | done | exact H
                  clear H
                  have H := H1
                  clear H1
                  have H' := Aside0.mk H
                  clear H
                  try go_wp2
                  replace BK255 := Aside0.mk (blk_drew BK255.out)
                  replace HB := Aside0.mk (below_drew1 HB.out)
                  have p277 : 0 ≤ (x8_3 : Int) := of_decide_eq_true (by first | (with_reducible assumption) | assumption)
                  have q277 : x8_3 < (l2.length : Int) := of_decide_eq_true (by first | (with_reducible assumption) | assumption)
                  obtain ⟨ad277, e277, hx277_0, hx277_1, hx277_2, hx277_3, hx277_4, hx277_5⟩ := at_T36 HR2.out x8_3 p277 q277
                  have hw277_5 := hx277_5
                  have hw277_4 := hx277_4
                  have hw277_3 := hx277_3
                  have hw277_2 := hx277_2
                  have hw277_1 := hx277_1
                  have hw277_0 := hx277_0
                  cases e277
                  replace hx277_0 := (HB.out.cell (World.block_lt_of_cell? w _ hx277_0)).trans hx277_0
                  replace hx277_1 := (HB.out.cell (World.block_lt_of_cell? w _ hx277_1)).trans hx277_1
                  replace hx277_2 := (HB.out.cell (World.block_lt_of_cell? w _ hx277_2)).trans hx277_2
                  replace hx277_3 := (HB.out.cell (World.block_lt_of_cell? w _ hx277_3)).trans hx277_3
                  replace hx277_4 := (HB.out.cell (World.block_lt_of_cell? w _ hx277_4)).trans hx277_4
                  replace hx277_5 := (HB.out.cell (World.block_lt_of_cell? w _ hx277_5)).trans hx277_5
                  replace p277 := eq_true p277
                  replace q277 := eq_true q277
                  have p278 : 0 ≤ (x9_4 : Int) := of_decide_eq_true (by first | (with_reducible assumption) | assumption)
                  have q278 : x9_4 < (l2.length : Int) := of_decide_eq_true (by first | (with_reducible assumption) | assumption)
                  obtain ⟨ad278, e278, hx278_0, hx278_1, hx278_2, hx278_3, hx278_4, hx278_5⟩ := at_T36 HR2.out x9_4 p278 q278
                  have hw278_5 := hx278_5
                  have hw278_4 := hx278_4
                  have hw278_3 := hx278_3
                  have hw278_2 := hx278_2
                  have hw278_1 := hx278_1
                  have hw278_0 := hx278_0
                  obtain rfl : ad277 = ad278 := (by injection e278)
                  replace hx278_0 := (HB.out.cell (World.block_lt_of_cell? w _ hx278_0)).trans hx278_0
                  replace hx278_1 := (HB.out.cell (World.block_lt_of_cell? w _ hx278_1)).trans hx278_1
                  replace hx278_2 := (HB.out.cell (World.block_lt_of_cell? w _ hx278_2)).trans hx278_2
                  replace hx278_3 := (HB.out.cell (World.block_lt_of_cell? w _ hx278_3)).trans hx278_3
                  replace hx278_4 := (HB.out.cell (World.block_lt_of_cell? w _ hx278_4)).trans hx278_4
                  replace hx278_5 := (HB.out.cell (World.block_lt_of_cell? w _ hx278_5)).trans hx278_5
                  replace p278 := eq_true p278
                  replace q278 := eq_true q278
                  refine start_ (n := 14) (S := fun w' => w'.cell? ⟨gb255, 0, none⟩ = some (.int .i64 a1_0) ∧ w'.cell? ⟨gb255, 1, none⟩ = some (.int .i64 a1_1) ∧ w'.cell? ⟨gb255, 2, none⟩ = some (.int .i64 a1_2) ∧ w'.cell? (ad277.add ((x8_3).toNat * 6)) = some (.int .i64 ((rd_T36 l2 x8_3).f0.f0)) ∧ w'.cell? ⟨(ad277.add ((x8_3).toNat * 6)).block, (ad277.add ((x8_3).toNat * 6)).off + 1, none⟩ = some (.int .i64 ((rd_T36 l2 x8_3).f0.f1)) ∧ w'.cell? ⟨(ad277.add ((x8_3).toNat * 6)).block, (ad277.add ((x8_3).toNat * 6)).off + 2, none⟩ = some (.int .i64 ((rd_T36 l2 x8_3).f0.f2)) ∧ w'.cell? ⟨(ad277.add ((x8_3).toNat * 6)).block, (ad277.add ((x8_3).toNat * 6)).off + 3, none⟩ = some (.int .i64 ((rd_T36 l2 x8_3).f0.f3)) ∧ w'.cell? ⟨(ad277.add ((x8_3).toNat * 6)).block, (ad277.add ((x8_3).toNat * 6)).off + 4, none⟩ = some (.int .i64 ((rd_T36 l2 x8_3).f1.f0)) ∧ w'.cell? ⟨(ad277.add ((x8_3).toNat * 6)).block, (ad277.add ((x8_3).toNat * 6)).off + 5, none⟩ = some (.int .i64 ((rd_T36 l2 x8_3).f1.f1)) ∧ w'.cell? (ad277.add ((x9_4).toNat * 6)) = some (.int .i64 ((rd_T36 l2 x9_4).f0.f0)) ∧ w'.cell? ⟨(ad277.add ((x9_4).toNat * 6)).block, (ad277.add ((x9_4).toNat * 6)).off + 1, none⟩ = some (.int .i64 ((rd_T36 l2 x9_4).f0.f1)) ∧ w'.cell? ⟨(ad277.add ((x9_4).toNat * 6)).block, (ad277.add ((x9_4).toNat * 6)).off + 2, none⟩ = some (.int .i64 ((rd_T36 l2 x9_4).f0.f2)) ∧ w'.cell? ⟨(ad277.add ((x9_4).toNat * 6)).block, (ad277.add ((x9_4).toNat * 6)).off + 3, none⟩ = some (.int .i64 ((rd_T36 l2 x9_4).f0.f3)) ∧ w'.cell? ⟨(ad277.add ((x9_4).toNat * 6)).block, (ad277.add ((x9_4).toNat * 6)).off + 4, none⟩ = some (.int .i64 ((rd_T36 l2 x9_4).f1.f0)) ∧ w'.cell? ⟨(ad277.add ((x9_4).toNat * 6)).block, (ad277.add ((x9_4).toNat * 6)).off + 5, none⟩ = some (.int .i64 ((rd_T36 l2 x9_4).f1.f1))) (ds := []) (bt 14 0) (by kernel_rfl) rfl rfl ⟨bcl BK255 0, bcl BK255 1, bcl BK255 2, ((HB.out.cell (World.block_lt_of_cell? w _ hw277_0)).trans hw277_0), ((HB.out.cell (World.block_lt_of_cell? w _ hw277_1)).trans hw277_1), ((HB.out.cell (World.block_lt_of_cell? w _ hw277_2)).trans hw277_2), ((HB.out.cell (World.block_lt_of_cell? w _ hw277_3)).trans hw277_3), ((HB.out.cell (World.block_lt_of_cell? w _ hw277_4)).trans hw277_4), ((HB.out.cell (World.block_lt_of_cell? w _ hw277_5)).trans hw277_5), ((HB.out.cell (World.block_lt_of_cell? w _ hw278_0)).trans hw278_0), ((HB.out.cell (World.block_lt_of_cell? w _ hw278_1)).trans hw278_1), ((HB.out.cell (World.block_lt_of_cell? w _ hw278_2)).trans hw278_2), ((HB.out.cell (World.block_lt_of_cell? w _ hw278_3)).trans hw278_3), ((HB.out.cell (World.block_lt_of_cell? w _ hw278_4)).trans hw278_4), ((HB.out.cell (World.block_lt_of_cell? w _ hw278_5)).trans hw278_5)⟩ (fun hHeld => ?_); refine with_tabW spec_IsGroup.tab16 spec_IsGroup.bits16 (fun HT_ HW_ => ?_)
                  generalize wr.drew = w55 at BK255 HB hx277_0 hx277_1 hx277_2 hx277_3 hx277_4 hx277_5 hx278_0 hx278_1 hx278_2 hx278_3 hx278_4 hx278_5 hHeld ⊢
                  refine pu 0 (some 79) (bt 14 1) HT_ ?_
                  refine pu 2 (some 81) #[true, false, true, false, false, false, false, false, false, false, false, false, false, false] HT_ ?_
                  refine pu 3 (some 82) #[true, false, true, true, false, false, false, false, false, false, false, false, false, false] HT_ ?_
                  refine pu 4 (some 83) #[true, false, true, true, true, false, false, false, false, false, false, false, false, false] HT_ ?_
                  refine pu 6 (some 85) #[true, false, true, true, true, false, true, false, false, false, false, false, false, false] HT_ ?_
                  refine pu 7 (some 86) #[true, false, true, true, true, false, true, true, false, false, false, false, false, false] HT_ ?_
                  refine pu 8 (some 87) #[true, false, true, true, true, false, true, true, true, false, false, false, false, false] HT_ ?_
                  refine ta 1 (some 80) #[true, true, true, true, true, false, true, true, true, false, false, false, false, false] HT_ HW_ hHeld ?_
                  refine ta 5 (some 84) (bt 14 9) HT_ HW_ hHeld ?_
                  refine ta 9 (some 88) (bt 14 10) HT_ HW_ hHeld ?_
                  refine one_ (i := 10) (N := some 89) (bt 14 11) rfl rfl (one_of HT_.out (by kernel_rfl)) (by decide) (fun K hK => ?_)
                  refine goes_ Try.func64 (by kernel_rfl) rfl #[.agg #[.int .i64 ((rd_T36 l2 x8_3).f0.f0), .int .i64 ((rd_T36 l2 x8_3).f0.f1), .int .i64 ((rd_T36 l2 x8_3).f0.f2), .int .i64 ((rd_T36 l2 x8_3).f0.f3), .int .i64 ((rd_T36 l2 x8_3).f1.f0), .int .i64 ((rd_T36 l2 x8_3).f1.f1)], .agg #[.int .i64 ((rd_T36 l2 x9_4).f0.f0), .int .i64 ((rd_T36 l2 x9_4).f0.f1), .int .i64 ((rd_T36 l2 x9_4).f0.f2), .int .i64 ((rd_T36 l2 x9_4).f0.f3), .int .i64 ((rd_T36 l2 x9_4).f1.f0), .int .i64 ((rd_T36 l2 x9_4).f1.f1)]] (by rfl) rfl rfl (by (try simp only [List.map_toArray, List.map_cons, List.map_nil]); first | done | rfl | (simp only [List.length_drop, List.length_take]; rfl)) ?_
                  with_reducible refine (spec_l05Compose.calls ((rd_T36 l2 x8_3).f0.f0) ((rd_T36 l2 x8_3).f0.f1) ((rd_T36 l2 x8_3).f0.f2) ((rd_T36 l2 x8_3).f0.f3) ((rd_T36 l2 x8_3).f1.f0) ((rd_T36 l2 x8_3).f1.f1) ((rd_T36 l2 x9_4).f0.f0) ((rd_T36 l2 x9_4).f0.f1) ((rd_T36 l2 x9_4).f0.f2) ((rd_T36 l2 x9_4).f0.f3) ((rd_T36 l2 x9_4).f1.f0) ((rd_T36 l2 x9_4).f1.f1) t279 t280 t281 t282 t283 t284 _ A51.out).mono ?_
                  rintro e w56 ⟨rfl, hb⟩
                  refine ⟨_, rfl, ?_⟩
                  replace BK255 := Aside0.mk (bbl BK255 hb)
                  replace HB := Aside0.mk (bst1 HB GE255 hb)
                  (try clear hb)
                  (try clear hb2)
                  (try clear hk)
                  (try clear hi)
                  refine hK.out _ _ ⟨bcl BK255 0, bcl BK255 1, bcl BK255 2, ((HB.out.cell (World.block_lt_of_cell? w _ hw277_0)).trans hw277_0), ((HB.out.cell (World.block_lt_of_cell? w _ hw277_1)).trans hw277_1), ((HB.out.cell (World.block_lt_of_cell? w _ hw277_2)).trans hw277_2), ((HB.out.cell (World.block_lt_of_cell? w _ hw277_3)).trans hw277_3), ((HB.out.cell (World.block_lt_of_cell? w _ hw277_4)).trans hw277_4), ((HB.out.cell (World.block_lt_of_cell? w _ hw277_5)).trans hw277_5), ((HB.out.cell (World.block_lt_of_cell? w _ hw278_0)).trans hw278_0), ((HB.out.cell (World.block_lt_of_cell? w _ hw278_1)).trans hw278_1), ((HB.out.cell (World.block_lt_of_cell? w _ hw278_2)).trans hw278_2), ((HB.out.cell (World.block_lt_of_cell? w _ hw278_3)).trans hw278_3), ((HB.out.cell (World.block_lt_of_cell? w _ hw278_4)).trans hw278_4), ((HB.out.cell (World.block_lt_of_cell? w _ hw278_5)).trans hw278_5)⟩ (fun hHeld => ?_)
                  clear hK K
                  refine norm_ (a' := ?_) ?_ ?_
                  rotate_left
                  ·show Act.put _ (some 89) _ = _
                   simp only [Act.put, sA, sB, sC, i64_w, i32_w]
                   rfl
                  refine one_ (i := 11) (N := some 90) (bt 14 12) rfl rfl (one_of HT_.out (by kernel_rfl)) (by decide) (fun K hK => ?_)
                  refine goes_ Try.func46 (by kernel_rfl) rfl #[.agg #[.int .i64 a1_0, .int .i64 a1_1, .int .i64 a1_2], .agg #[.int .i64 t279, .int .i64 t280, .int .i64 t281, .int .i64 t282, .int .i64 t283, .int .i64 t284]] (by rfl) rfl rfl (by (try simp only [List.map_toArray, List.map_cons, List.map_nil]); first | done | rfl | (simp only [List.length_drop, List.length_take]; rfl)) ?_
                  with_reducible refine (spec_l06Reduce.calls a1_0 a1_1 a1_2 t279 t280 t281 t282 t283 t284 t285 t286 t287 t288 t289 t290 _ A52.out).mono ?_
                  rintro e w57 ⟨rfl, hb⟩
                  refine ⟨_, rfl, ?_⟩
                  replace BK255 := Aside0.mk (bbl BK255 hb)
                  replace HB := Aside0.mk (bst1 HB GE255 hb)
                  (try clear hb)
                  (try clear hb2)
                  (try clear hk)
                  (try clear hi)
                  refine hK.out _ _ ⟨bcl BK255 0, bcl BK255 1, bcl BK255 2, ((HB.out.cell (World.block_lt_of_cell? w _ hw277_0)).trans hw277_0), ((HB.out.cell (World.block_lt_of_cell? w _ hw277_1)).trans hw277_1), ((HB.out.cell (World.block_lt_of_cell? w _ hw277_2)).trans hw277_2), ((HB.out.cell (World.block_lt_of_cell? w _ hw277_3)).trans hw277_3), ((HB.out.cell (World.block_lt_of_cell? w _ hw277_4)).trans hw277_4), ((HB.out.cell (World.block_lt_of_cell? w _ hw277_5)).trans hw277_5), ((HB.out.cell (World.block_lt_of_cell? w _ hw278_0)).trans hw278_0), ((HB.out.cell (World.block_lt_of_cell? w _ hw278_1)).trans hw278_1), ((HB.out.cell (World.block_lt_of_cell? w _ hw278_2)).trans hw278_2), ((HB.out.cell (World.block_lt_of_cell? w _ hw278_3)).trans hw278_3), ((HB.out.cell (World.block_lt_of_cell? w _ hw278_4)).trans hw278_4), ((HB.out.cell (World.block_lt_of_cell? w _ hw278_5)).trans hw278_5)⟩ (fun hHeld => ?_)
                  clear hK K
                  refine norm_ (a' := ?_) ?_ ?_
                  rotate_left
                  ·show Act.put _ (some 90) _ = _
                   simp only [Act.put, sA, sB, sC, i64_w, i32_w]
                   rfl
                  refine one_ (i := 12) (N := some 91) (bt 14 13) rfl rfl (one_of HT_.out (by kernel_rfl)) (by decide) (fun K hK => ?_)
                  refine goes_ Try.func62 (by kernel_rfl) rfl #[.slice (some ad277) l2.length c2, .agg #[.int .i64 t285, .int .i64 t286, .int .i64 t287, .int .i64 t288, .int .i64 t289, .int .i64 t290]] (by rfl) rfl rfl (by (try simp only [List.map_toArray, List.map_cons, List.map_nil]); first | done | rfl | (simp only [List.length_drop, List.length_take]; rfl)) ?_
                  with_reducible refine (spec_l06Has.calls k4 _ _ l2 t285 t286 t287 t288 t289 t290 true _ ?side1 ?side2 A53.out).mono ?_
                  (case side1 => repeat (first | exact (Kd.C_below HR2.out HB.out) | (with_reducible refine Kd.C_alloc ?_ _) | (with_reducible refine Kd.C_drewN ?_ _) | (with_reducible refine Kd.C_drew ?_)))
                  (case side2 => exact HC2.out)
                  rintro e w58 ⟨rfl, hb⟩
                  refine ⟨_, rfl, ?_⟩
                  replace BK255 := Aside0.mk (bbl BK255 hb)
                  replace HB := Aside0.mk (bst1 HB GE255 hb)
                  (try clear hb)
                  (try clear hb2)
                  (try clear hk)
                  (try clear hi)
                  refine hK.out _ _ ⟨bcl BK255 0, bcl BK255 1, bcl BK255 2, ((HB.out.cell (World.block_lt_of_cell? w _ hw277_0)).trans hw277_0), ((HB.out.cell (World.block_lt_of_cell? w _ hw277_1)).trans hw277_1), ((HB.out.cell (World.block_lt_of_cell? w _ hw277_2)).trans hw277_2), ((HB.out.cell (World.block_lt_of_cell? w _ hw277_3)).trans hw277_3), ((HB.out.cell (World.block_lt_of_cell? w _ hw277_4)).trans hw277_4), ((HB.out.cell (World.block_lt_of_cell? w _ hw277_5)).trans hw277_5), ((HB.out.cell (World.block_lt_of_cell? w _ hw278_0)).trans hw278_0), ((HB.out.cell (World.block_lt_of_cell? w _ hw278_1)).trans hw278_1), ((HB.out.cell (World.block_lt_of_cell? w _ hw278_2)).trans hw278_2), ((HB.out.cell (World.block_lt_of_cell? w _ hw278_3)).trans hw278_3), ((HB.out.cell (World.block_lt_of_cell? w _ hw278_4)).trans hw278_4), ((HB.out.cell (World.block_lt_of_cell? w _ hw278_5)).trans hw278_5)⟩ (fun hHeld => ?_)
                  clear hK K
                  refine norm_ (a' := ?_) ?_ ?_
                  rotate_left
                  ·show Act.put _ (some 91) _ = _
                   simp only [Act.put, sA, sB, sC, i64_w, i32_w]
                   rfl
                  refine pu 13 (some 92) (bt 14 14) HT_ ?_
                  refine done_ (done_of HT_.out (by kernel_rfl)) ?_
                  try go_wp2
                  go_roundg k4
                  case measure => have := HJ3.out; have := HK2.out; have := HK3.out; have := HK4.out; omega
                  case rel => exact ⟨(wrap64 (x9_4 + 1)), (by first | rfl | (simp; done) | (simp [*]; done)), H', ⟨by have := HJ3.out; have := HK2.out; have := HK3.out; have := HK4.out; omega⟩, ⟨bkp BK255⟩, ⟨bbw1 HB GE255⟩⟩
                 ·replace c54 := Bool.eq_false_iff.mpr c54
                  subst c54
                  have H1 : (some false) = some r := by rw [if_neg (show ¬ (false = true) by decide)] at H; first | done | exact H
                  clear H
                  have H := H1
                  clear H1
                  obtain rfl := Option.some.inj H
                  try go_wp2
                  replace BK255 := Aside0.mk (blk_drew BK255.out)
                  replace HB := Aside0.mk (below_drew1 HB.out)
                  have p277 : 0 ≤ (x8_3 : Int) := of_decide_eq_true (by first | (with_reducible assumption) | assumption)
                  have q277 : x8_3 < (l2.length : Int) := of_decide_eq_true (by first | (with_reducible assumption) | assumption)
                  obtain ⟨ad277, e277, hx277_0, hx277_1, hx277_2, hx277_3, hx277_4, hx277_5⟩ := at_T36 HR2.out x8_3 p277 q277
                  have hw277_5 := hx277_5
                  have hw277_4 := hx277_4
                  have hw277_3 := hx277_3
                  have hw277_2 := hx277_2
                  have hw277_1 := hx277_1
                  have hw277_0 := hx277_0
                  cases e277
                  replace hx277_0 := (HB.out.cell (World.block_lt_of_cell? w _ hx277_0)).trans hx277_0
                  replace hx277_1 := (HB.out.cell (World.block_lt_of_cell? w _ hx277_1)).trans hx277_1
                  replace hx277_2 := (HB.out.cell (World.block_lt_of_cell? w _ hx277_2)).trans hx277_2
                  replace hx277_3 := (HB.out.cell (World.block_lt_of_cell? w _ hx277_3)).trans hx277_3
                  replace hx277_4 := (HB.out.cell (World.block_lt_of_cell? w _ hx277_4)).trans hx277_4
                  replace hx277_5 := (HB.out.cell (World.block_lt_of_cell? w _ hx277_5)).trans hx277_5
                  replace p277 := eq_true p277
                  replace q277 := eq_true q277
                  have p278 : 0 ≤ (x9_4 : Int) := of_decide_eq_true (by first | (with_reducible assumption) | assumption)
                  have q278 : x9_4 < (l2.length : Int) := of_decide_eq_true (by first | (with_reducible assumption) | assumption)
                  obtain ⟨ad278, e278, hx278_0, hx278_1, hx278_2, hx278_3, hx278_4, hx278_5⟩ := at_T36 HR2.out x9_4 p278 q278
                  have hw278_5 := hx278_5
                  have hw278_4 := hx278_4
                  have hw278_3 := hx278_3
                  have hw278_2 := hx278_2
                  have hw278_1 := hx278_1
                  have hw278_0 := hx278_0
                  obtain rfl : ad277 = ad278 := (by injection e278)
                  replace hx278_0 := (HB.out.cell (World.block_lt_of_cell? w _ hx278_0)).trans hx278_0
                  replace hx278_1 := (HB.out.cell (World.block_lt_of_cell? w _ hx278_1)).trans hx278_1
                  replace hx278_2 := (HB.out.cell (World.block_lt_of_cell? w _ hx278_2)).trans hx278_2
                  replace hx278_3 := (HB.out.cell (World.block_lt_of_cell? w _ hx278_3)).trans hx278_3
                  replace hx278_4 := (HB.out.cell (World.block_lt_of_cell? w _ hx278_4)).trans hx278_4
                  replace hx278_5 := (HB.out.cell (World.block_lt_of_cell? w _ hx278_5)).trans hx278_5
                  replace p278 := eq_true p278
                  replace q278 := eq_true q278
                  refine start_ (n := 14) (S := fun w' => w'.cell? ⟨gb255, 0, none⟩ = some (.int .i64 a1_0) ∧ w'.cell? ⟨gb255, 1, none⟩ = some (.int .i64 a1_1) ∧ w'.cell? ⟨gb255, 2, none⟩ = some (.int .i64 a1_2) ∧ w'.cell? (ad277.add ((x8_3).toNat * 6)) = some (.int .i64 ((rd_T36 l2 x8_3).f0.f0)) ∧ w'.cell? ⟨(ad277.add ((x8_3).toNat * 6)).block, (ad277.add ((x8_3).toNat * 6)).off + 1, none⟩ = some (.int .i64 ((rd_T36 l2 x8_3).f0.f1)) ∧ w'.cell? ⟨(ad277.add ((x8_3).toNat * 6)).block, (ad277.add ((x8_3).toNat * 6)).off + 2, none⟩ = some (.int .i64 ((rd_T36 l2 x8_3).f0.f2)) ∧ w'.cell? ⟨(ad277.add ((x8_3).toNat * 6)).block, (ad277.add ((x8_3).toNat * 6)).off + 3, none⟩ = some (.int .i64 ((rd_T36 l2 x8_3).f0.f3)) ∧ w'.cell? ⟨(ad277.add ((x8_3).toNat * 6)).block, (ad277.add ((x8_3).toNat * 6)).off + 4, none⟩ = some (.int .i64 ((rd_T36 l2 x8_3).f1.f0)) ∧ w'.cell? ⟨(ad277.add ((x8_3).toNat * 6)).block, (ad277.add ((x8_3).toNat * 6)).off + 5, none⟩ = some (.int .i64 ((rd_T36 l2 x8_3).f1.f1)) ∧ w'.cell? (ad277.add ((x9_4).toNat * 6)) = some (.int .i64 ((rd_T36 l2 x9_4).f0.f0)) ∧ w'.cell? ⟨(ad277.add ((x9_4).toNat * 6)).block, (ad277.add ((x9_4).toNat * 6)).off + 1, none⟩ = some (.int .i64 ((rd_T36 l2 x9_4).f0.f1)) ∧ w'.cell? ⟨(ad277.add ((x9_4).toNat * 6)).block, (ad277.add ((x9_4).toNat * 6)).off + 2, none⟩ = some (.int .i64 ((rd_T36 l2 x9_4).f0.f2)) ∧ w'.cell? ⟨(ad277.add ((x9_4).toNat * 6)).block, (ad277.add ((x9_4).toNat * 6)).off + 3, none⟩ = some (.int .i64 ((rd_T36 l2 x9_4).f0.f3)) ∧ w'.cell? ⟨(ad277.add ((x9_4).toNat * 6)).block, (ad277.add ((x9_4).toNat * 6)).off + 4, none⟩ = some (.int .i64 ((rd_T36 l2 x9_4).f1.f0)) ∧ w'.cell? ⟨(ad277.add ((x9_4).toNat * 6)).block, (ad277.add ((x9_4).toNat * 6)).off + 5, none⟩ = some (.int .i64 ((rd_T36 l2 x9_4).f1.f1))) (ds := []) (bt 14 0) (by kernel_rfl) rfl rfl ⟨bcl BK255 0, bcl BK255 1, bcl BK255 2, ((HB.out.cell (World.block_lt_of_cell? w _ hw277_0)).trans hw277_0), ((HB.out.cell (World.block_lt_of_cell? w _ hw277_1)).trans hw277_1), ((HB.out.cell (World.block_lt_of_cell? w _ hw277_2)).trans hw277_2), ((HB.out.cell (World.block_lt_of_cell? w _ hw277_3)).trans hw277_3), ((HB.out.cell (World.block_lt_of_cell? w _ hw277_4)).trans hw277_4), ((HB.out.cell (World.block_lt_of_cell? w _ hw277_5)).trans hw277_5), ((HB.out.cell (World.block_lt_of_cell? w _ hw278_0)).trans hw278_0), ((HB.out.cell (World.block_lt_of_cell? w _ hw278_1)).trans hw278_1), ((HB.out.cell (World.block_lt_of_cell? w _ hw278_2)).trans hw278_2), ((HB.out.cell (World.block_lt_of_cell? w _ hw278_3)).trans hw278_3), ((HB.out.cell (World.block_lt_of_cell? w _ hw278_4)).trans hw278_4), ((HB.out.cell (World.block_lt_of_cell? w _ hw278_5)).trans hw278_5)⟩ (fun hHeld => ?_); refine with_tabW spec_IsGroup.tab16 spec_IsGroup.bits16 (fun HT_ HW_ => ?_)
                  generalize wr.drew = w59 at BK255 HB hx277_0 hx277_1 hx277_2 hx277_3 hx277_4 hx277_5 hx278_0 hx278_1 hx278_2 hx278_3 hx278_4 hx278_5 hHeld ⊢
                  refine pu 0 (some 79) (bt 14 1) HT_ ?_
                  refine pu 2 (some 81) #[true, false, true, false, false, false, false, false, false, false, false, false, false, false] HT_ ?_
                  refine pu 3 (some 82) #[true, false, true, true, false, false, false, false, false, false, false, false, false, false] HT_ ?_
                  refine pu 4 (some 83) #[true, false, true, true, true, false, false, false, false, false, false, false, false, false] HT_ ?_
                  refine pu 6 (some 85) #[true, false, true, true, true, false, true, false, false, false, false, false, false, false] HT_ ?_
                  refine pu 7 (some 86) #[true, false, true, true, true, false, true, true, false, false, false, false, false, false] HT_ ?_
                  refine pu 8 (some 87) #[true, false, true, true, true, false, true, true, true, false, false, false, false, false] HT_ ?_
                  refine ta 1 (some 80) #[true, true, true, true, true, false, true, true, true, false, false, false, false, false] HT_ HW_ hHeld ?_
                  refine ta 5 (some 84) (bt 14 9) HT_ HW_ hHeld ?_
                  refine ta 9 (some 88) (bt 14 10) HT_ HW_ hHeld ?_
                  refine one_ (i := 10) (N := some 89) (bt 14 11) rfl rfl (one_of HT_.out (by kernel_rfl)) (by decide) (fun K hK => ?_)
                  refine goes_ Try.func64 (by kernel_rfl) rfl #[.agg #[.int .i64 ((rd_T36 l2 x8_3).f0.f0), .int .i64 ((rd_T36 l2 x8_3).f0.f1), .int .i64 ((rd_T36 l2 x8_3).f0.f2), .int .i64 ((rd_T36 l2 x8_3).f0.f3), .int .i64 ((rd_T36 l2 x8_3).f1.f0), .int .i64 ((rd_T36 l2 x8_3).f1.f1)], .agg #[.int .i64 ((rd_T36 l2 x9_4).f0.f0), .int .i64 ((rd_T36 l2 x9_4).f0.f1), .int .i64 ((rd_T36 l2 x9_4).f0.f2), .int .i64 ((rd_T36 l2 x9_4).f0.f3), .int .i64 ((rd_T36 l2 x9_4).f1.f0), .int .i64 ((rd_T36 l2 x9_4).f1.f1)]] (by rfl) rfl rfl (by (try simp only [List.map_toArray, List.map_cons, List.map_nil]); first | done | rfl | (simp only [List.length_drop, List.length_take]; rfl)) ?_
                  with_reducible refine (spec_l05Compose.calls ((rd_T36 l2 x8_3).f0.f0) ((rd_T36 l2 x8_3).f0.f1) ((rd_T36 l2 x8_3).f0.f2) ((rd_T36 l2 x8_3).f0.f3) ((rd_T36 l2 x8_3).f1.f0) ((rd_T36 l2 x8_3).f1.f1) ((rd_T36 l2 x9_4).f0.f0) ((rd_T36 l2 x9_4).f0.f1) ((rd_T36 l2 x9_4).f0.f2) ((rd_T36 l2 x9_4).f0.f3) ((rd_T36 l2 x9_4).f1.f0) ((rd_T36 l2 x9_4).f1.f1) t279 t280 t281 t282 t283 t284 _ A51.out).mono ?_
                  rintro e w60 ⟨rfl, hb⟩
                  refine ⟨_, rfl, ?_⟩
                  replace BK255 := Aside0.mk (bbl BK255 hb)
                  replace HB := Aside0.mk (bst1 HB GE255 hb)
                  (try clear hb)
                  (try clear hb2)
                  (try clear hk)
                  (try clear hi)
                  refine hK.out _ _ ⟨bcl BK255 0, bcl BK255 1, bcl BK255 2, ((HB.out.cell (World.block_lt_of_cell? w _ hw277_0)).trans hw277_0), ((HB.out.cell (World.block_lt_of_cell? w _ hw277_1)).trans hw277_1), ((HB.out.cell (World.block_lt_of_cell? w _ hw277_2)).trans hw277_2), ((HB.out.cell (World.block_lt_of_cell? w _ hw277_3)).trans hw277_3), ((HB.out.cell (World.block_lt_of_cell? w _ hw277_4)).trans hw277_4), ((HB.out.cell (World.block_lt_of_cell? w _ hw277_5)).trans hw277_5), ((HB.out.cell (World.block_lt_of_cell? w _ hw278_0)).trans hw278_0), ((HB.out.cell (World.block_lt_of_cell? w _ hw278_1)).trans hw278_1), ((HB.out.cell (World.block_lt_of_cell? w _ hw278_2)).trans hw278_2), ((HB.out.cell (World.block_lt_of_cell? w _ hw278_3)).trans hw278_3), ((HB.out.cell (World.block_lt_of_cell? w _ hw278_4)).trans hw278_4), ((HB.out.cell (World.block_lt_of_cell? w _ hw278_5)).trans hw278_5)⟩ (fun hHeld => ?_)
                  clear hK K
                  refine norm_ (a' := ?_) ?_ ?_
                  rotate_left
                  ·show Act.put _ (some 89) _ = _
                   simp only [Act.put, sA, sB, sC, i64_w, i32_w]
                   rfl
                  refine one_ (i := 11) (N := some 90) (bt 14 12) rfl rfl (one_of HT_.out (by kernel_rfl)) (by decide) (fun K hK => ?_)
                  refine goes_ Try.func46 (by kernel_rfl) rfl #[.agg #[.int .i64 a1_0, .int .i64 a1_1, .int .i64 a1_2], .agg #[.int .i64 t279, .int .i64 t280, .int .i64 t281, .int .i64 t282, .int .i64 t283, .int .i64 t284]] (by rfl) rfl rfl (by (try simp only [List.map_toArray, List.map_cons, List.map_nil]); first | done | rfl | (simp only [List.length_drop, List.length_take]; rfl)) ?_
                  with_reducible refine (spec_l06Reduce.calls a1_0 a1_1 a1_2 t279 t280 t281 t282 t283 t284 t285 t286 t287 t288 t289 t290 _ A52.out).mono ?_
                  rintro e w61 ⟨rfl, hb⟩
                  refine ⟨_, rfl, ?_⟩
                  replace BK255 := Aside0.mk (bbl BK255 hb)
                  replace HB := Aside0.mk (bst1 HB GE255 hb)
                  (try clear hb)
                  (try clear hb2)
                  (try clear hk)
                  (try clear hi)
                  refine hK.out _ _ ⟨bcl BK255 0, bcl BK255 1, bcl BK255 2, ((HB.out.cell (World.block_lt_of_cell? w _ hw277_0)).trans hw277_0), ((HB.out.cell (World.block_lt_of_cell? w _ hw277_1)).trans hw277_1), ((HB.out.cell (World.block_lt_of_cell? w _ hw277_2)).trans hw277_2), ((HB.out.cell (World.block_lt_of_cell? w _ hw277_3)).trans hw277_3), ((HB.out.cell (World.block_lt_of_cell? w _ hw277_4)).trans hw277_4), ((HB.out.cell (World.block_lt_of_cell? w _ hw277_5)).trans hw277_5), ((HB.out.cell (World.block_lt_of_cell? w _ hw278_0)).trans hw278_0), ((HB.out.cell (World.block_lt_of_cell? w _ hw278_1)).trans hw278_1), ((HB.out.cell (World.block_lt_of_cell? w _ hw278_2)).trans hw278_2), ((HB.out.cell (World.block_lt_of_cell? w _ hw278_3)).trans hw278_3), ((HB.out.cell (World.block_lt_of_cell? w _ hw278_4)).trans hw278_4), ((HB.out.cell (World.block_lt_of_cell? w _ hw278_5)).trans hw278_5)⟩ (fun hHeld => ?_)
                  clear hK K
                  refine norm_ (a' := ?_) ?_ ?_
                  rotate_left
                  ·show Act.put _ (some 90) _ = _
                   simp only [Act.put, sA, sB, sC, i64_w, i32_w]
                   rfl
                  refine one_ (i := 12) (N := some 91) (bt 14 13) rfl rfl (one_of HT_.out (by kernel_rfl)) (by decide) (fun K hK => ?_)
                  refine goes_ Try.func62 (by kernel_rfl) rfl #[.slice (some ad277) l2.length c2, .agg #[.int .i64 t285, .int .i64 t286, .int .i64 t287, .int .i64 t288, .int .i64 t289, .int .i64 t290]] (by rfl) rfl rfl (by (try simp only [List.map_toArray, List.map_cons, List.map_nil]); first | done | rfl | (simp only [List.length_drop, List.length_take]; rfl)) ?_
                  with_reducible refine (spec_l06Has.calls k4 _ _ l2 t285 t286 t287 t288 t289 t290 false _ ?side1 ?side2 A53.out).mono ?_
                  (case side1 => repeat (first | exact (Kd.C_below HR2.out HB.out) | (with_reducible refine Kd.C_alloc ?_ _) | (with_reducible refine Kd.C_drewN ?_ _) | (with_reducible refine Kd.C_drew ?_)))
                  (case side2 => exact HC2.out)
                  rintro e w62 ⟨rfl, hb⟩
                  refine ⟨_, rfl, ?_⟩
                  replace BK255 := Aside0.mk (bbl BK255 hb)
                  replace HB := Aside0.mk (bst1 HB GE255 hb)
                  (try clear hb)
                  (try clear hb2)
                  (try clear hk)
                  (try clear hi)
                  refine hK.out _ _ ⟨bcl BK255 0, bcl BK255 1, bcl BK255 2, ((HB.out.cell (World.block_lt_of_cell? w _ hw277_0)).trans hw277_0), ((HB.out.cell (World.block_lt_of_cell? w _ hw277_1)).trans hw277_1), ((HB.out.cell (World.block_lt_of_cell? w _ hw277_2)).trans hw277_2), ((HB.out.cell (World.block_lt_of_cell? w _ hw277_3)).trans hw277_3), ((HB.out.cell (World.block_lt_of_cell? w _ hw277_4)).trans hw277_4), ((HB.out.cell (World.block_lt_of_cell? w _ hw277_5)).trans hw277_5), ((HB.out.cell (World.block_lt_of_cell? w _ hw278_0)).trans hw278_0), ((HB.out.cell (World.block_lt_of_cell? w _ hw278_1)).trans hw278_1), ((HB.out.cell (World.block_lt_of_cell? w _ hw278_2)).trans hw278_2), ((HB.out.cell (World.block_lt_of_cell? w _ hw278_3)).trans hw278_3), ((HB.out.cell (World.block_lt_of_cell? w _ hw278_4)).trans hw278_4), ((HB.out.cell (World.block_lt_of_cell? w _ hw278_5)).trans hw278_5)⟩ (fun hHeld => ?_)
                  clear hK K
                  refine norm_ (a' := ?_) ?_ ?_
                  rotate_left
                  ·show Act.put _ (some 91) _ = _
                   simp only [Act.put, sA, sB, sC, i64_w, i32_w]
                   rfl
                  refine pu 13 (some 92) (bt 14 14) HT_ ?_
                  refine done_ (done_of HT_.out (by kernel_rfl)) ?_
                  try go_wp2
                  go_ret
                  exact ⟨by first | rfl | (simp [errW_none, errW_some] <;> rfl) | (simp [*, errW_none, errW_some] <;> rfl), bbw1 HB GE255⟩
                ·rw [if_neg c50] at H
                 exact absurd H (by simp)
               ·rw [if_neg c49] at H
                exact absurd H (by simp)
              ·rw [if_neg c48] at H
               exact absurd H (by simp)
             ·rw [if_neg c47] at H
              have c47b0 : decide (x9_4 < (l2.length : Int)) = false := decide_eq_false c47
              clear c47
              have H' := Aside0.mk H
              clear H
              go_wp2
              go_roundg k4
              case measure => have := HJ3.out; have := HK2.out; have := HK3.out; have := HK4.out; omega
              case rel => exact ⟨(wrap64 (x8_3 + 1)), (by first | rfl | (simp; done) | (simp [*]; done)), H', ⟨by have := HJ3.out; have := HK2.out; have := HK3.out; have := HK4.out; omega⟩, ⟨bkp BK255⟩, ⟨bbw1 HB GE255⟩⟩
          ·rw [if_neg c46] at H
           have c46b0 : decide (x8_3 < (l2.length : Int)) = false := decide_eq_false c46
           clear c46
           obtain rfl := Option.some.inj H
           go_wp2
           go_ret
           exact ⟨by first | rfl | (simp [errW_none, errW_some] <;> rfl) | (simp [*, errW_none, errW_some] <;> rfl), bbw1 HB GE255⟩
       ·replace c43 := Bool.eq_false_iff.mpr c43
        subst c43
        have H1 : (some false) = some r := by rw [if_neg (show ¬ (false = true) by decide)] at H; first | done | exact H
        clear H
        have H := H1
        clear H1
        obtain rfl := Option.some.inj H
        go_wp2_with (first | ((with_reducible refine gate_callee (f := 63) rfl ?_); refine goesL_ (some 64) rfl rfl Try.func63 (by kernel_rfl) rfl #[] rfl (by (try simp only [List.map_toArray, List.map_cons, List.map_nil]); first | done | rfl | (simp only [List.length_drop, List.length_take]; rfl)) ?_; (with_reducible refine (spec_l06Unit.calls  t270 t271 t272 t273 t274 t275 _ A41.out).mono ?_); rintro e w63 ⟨rfl, hb⟩; refine ⟨_, rfl, ?_⟩; replace BK255 := Aside0.mk (bbl BK255 hb); replace HB := Aside0.mk (bst1 HB GE255 hb); (try clear hb); (try clear hb2); (try clear hk); (try clear hi)) | ((with_reducible refine gate_callee (f := 62) rfl ?_); refine goesL_ (some 65) rfl rfl Try.func62 (by kernel_rfl) rfl #[.slice A2 l2.length c2, .agg #[.int .i64 t270, .int .i64 t271, .int .i64 t272, .int .i64 t273, .int .i64 t274, .int .i64 t275]] rfl (by (try simp only [List.map_toArray, List.map_cons, List.map_nil]); first | done | rfl | (simp only [List.length_drop, List.length_take]; rfl)) ?_; (with_reducible refine (spec_l06Has.calls k2 _ _ l2 t270 t271 t272 t273 t274 t275 false _ ?side1 ?side2 A42.out).mono ?_); (case side1 => repeat (first | exact (Kd.C_below HR2.out HB.out) | (with_reducible refine Kd.C_alloc ?_ _) | (with_reducible refine Kd.C_drewN ?_ _) | (with_reducible refine Kd.C_drew ?_))); (case side2 => exact HC2.out); rintro e w64 ⟨rfl, hb⟩; refine ⟨_, rfl, ?_⟩; replace BK255 := Aside0.mk (bbl BK255 hb); replace HB := Aside0.mk (bst1 HB GE255 hb); (try clear hb); (try clear hb2); (try clear hk); (try clear hi)))
        go_ret
        exact ⟨by first | rfl | (simp [errW_none, errW_some] <;> rfl) | (simp [*, errW_none, errW_some] <;> rfl), bbw1 HB GE255⟩
end Go.Proofs.Ytndfnaehpdkaiaa.PB
