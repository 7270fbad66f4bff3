/- Walks written by program: each Go function that the law reaches comes to the plain function beside it. -/
import Derived.Test.YtndfnaehpdkaiaaPAx0
import Derived.Test.YtndfnaehpdkaiaaPAx2
import Derived.Test.YtndfnaehpdkaiaaPAx3
import Derived.Test.YtndfnaehpdkaiaaPAx4
import Derived.Test.YtndfnaehpdkaiaaPAx10
namespace Go.Proofs.Ytndfnaehpdkaiaa.PA
open Go.RowKit Go.Proofs.YtndfnaehpdkaiaaW.PrintWords Go.Proofs.YtndfnaehpdkaiaaW.PrintLast Go.Proofs.YtndfnaehpdkaiaaW.PrintMore
attribute [local go_sem] max2_int min2_int max_two min_two max_three min_three max_four min_four   -- for this text's walks alone
set_option linter.unusedVariables false
set_option linter.unusedSimpArgs false

/-! ### spec_l01Less: function 107 -/
def spec_l01Less.f (a0_0 : Int) (a0_1 : Int) (a1_0 : Int) (a1_1 : Int) : Option (Bool) := if a0_0 < a1_0 then (some true) else (if a0_0 = a1_0 then (some (decide (a0_1 < a1_1))) else (some false))
set_option maxHeartbeats 8000000 in
set_option maxRecDepth 100000 in
theorem spec_l01Less.calls (a0_0 : Int) (a0_1 : Int) (a1_0 : Int) (a1_1 : Int) (r : Bool) (w : World) (h : spec_l01Less.f a0_0 a0_1 a1_0 a1_1 = some r) :
  Calls Try.prog 107 #[.agg #[.int .i64 a0_0, .int .i64 a0_1], .agg #[.int .i64 a1_0, .int .i64 a1_1]] w fun e w' => e = .returned (.bool r) ∧ Below w.heap.size w w' := by
 have hu34 := Try.underlying34
 have HB := Aside0.mk (Below.refl w.heap.size w)
 have H : (if a0_0 < a1_0 then (some true) else (if a0_0 = a1_0 then (some (decide (a0_1 < a1_1))) else (some false))) = some r := h
 clear h
 by_cases c3 : a0_0 < a1_0
 ·rw [if_pos c3] at H
  have c3b0 : decide (a0_0 < a1_0) = true := decide_eq_true c3
  clear c3
  obtain rfl := Option.some.inj H
  go_enter Try.func107, Try.ntmps107
  go_wp2_with (first | ((with_reducible refine gate_dst (N := 2) rfl ?_); refine box_event ?hg (N := 2) ?hd (cs := #[.int .i64 a0_0, .int .i64 a0_1]) (t := 34) ?hr ?_; (case hd => rfl); (case hg => rfl); (case hr => first | (go_simp; done) | (go_simp; rfl)); intro gb496 hg w4 hbox hb; have n0_ := Aside0.mk (bst0 HB hb); have n1_ := Aside0.mk (hbox); have n2_ := ngw0 hg HB; have n3_ := n2_; clear HB; have HB := n0_; have BK496 := n1_; have GW496 := n2_; have GE496 := n3_; clear n0_ n1_ n2_ n3_; clear hb hbox hg) | ((with_reducible refine gate_dst (N := 3) rfl ?_); refine box_event ?hg (N := 3) ?hd (cs := #[.int .i64 a1_0, .int .i64 a1_1]) (t := 34) ?hr ?_; (case hd => rfl); (case hg => rfl); (case hr => first | (go_simp; done) | (go_simp; rfl)); intro gb497 hg w5 hbox hb; have n0_ := Aside0.mk (bbl BK496 hb); have n1_ := Aside0.mk (bst1 HB GE496 hb); have n2_ := Aside0.mk (hbox); have n3_ := ngw1 hg HB GE496; have n4_ := n3_; have n5_ := nlt hg BK496; have n6_ := nsy (nlt hg BK496); clear BK496; clear HB; have BK496 := n0_; have HB := n1_; have BK497 := n2_; have GW497 := n3_; have GE497 := n4_; have NB496_497 := n5_; have NB497_496 := n6_; clear n0_ n1_ n2_ n3_ n4_ n5_ n6_; clear hb hbox hg; have hnb6 := NB496_497.out; have hnc6 := NB497_496.out; have hcz7_0 : w5.cell? ⟨gb496, 0, none⟩ = some (.int .i64 a0_0) := bcl BK496 0; have hcz7_1 : w5.cell? ⟨gb496, 1, none⟩ = some (.int .i64 a0_1) := bcl BK496 1; have hfz7_0 := blk_frozen BK496.out 0; have hfz7_1 := blk_frozen BK496.out 1; have hcz8_0 : w5.cell? ⟨gb497, 0, none⟩ = some (.int .i64 a1_0) := bcl BK497 0; have hcz8_1 : w5.cell? ⟨gb497, 1, none⟩ = some (.int .i64 a1_1) := bcl BK497 1; have hfz8_0 := blk_frozen BK497.out 0; have hfz8_1 := blk_frozen BK497.out 1))
  go_ret
  exact ⟨by first | rfl | (simp [errW_none, errW_some] <;> rfl) | (simp [*, errW_none, errW_some] <;> rfl), bbw2 HB GE496 GE497⟩
 ·rw [if_neg c3] at H
  have c3b0 : decide (a0_0 < a1_0) = false := decide_eq_false c3
  clear c3
  by_cases c9 : a0_0 = a1_0
  ·rw [if_pos c9] at H
   have c9b0 : (a0_0 == a1_0) = true := beq_iff_eq.mpr c9
   have c9b1 : (a0_0 != a1_0) = false := bne_eq_false_iff_eq.mpr c9
   clear c9
   obtain rfl := Option.some.inj H
   go_enter Try.func107, Try.ntmps107
   go_wp2_with (first | ((with_reducible refine gate_dst (N := 2) rfl ?_); refine box_event ?hg (N := 2) ?hd (cs := #[.int .i64 a0_0, .int .i64 a0_1]) (t := 34) ?hr ?_; (case hd => rfl); (case hg => rfl); (case hr => first | (go_simp; done) | (go_simp; rfl)); intro gb496 hg w10 hbox hb; have n0_ := Aside0.mk (bst0 HB hb); have n1_ := Aside0.mk (hbox); have n2_ := ngw0 hg HB; have n3_ := n2_; clear HB; have HB := n0_; have BK496 := n1_; have GW496 := n2_; have GE496 := n3_; clear n0_ n1_ n2_ n3_; clear hb hbox hg) | ((with_reducible refine gate_dst (N := 3) rfl ?_); refine box_event ?hg (N := 3) ?hd (cs := #[.int .i64 a1_0, .int .i64 a1_1]) (t := 34) ?hr ?_; (case hd => rfl); (case hg => rfl); (case hr => first | (go_simp; done) | (go_simp; rfl)); intro gb497 hg w11 hbox hb; have n0_ := Aside0.mk (bbl BK496 hb); have n1_ := Aside0.mk (bst1 HB GE496 hb); have n2_ := Aside0.mk (hbox); have n3_ := ngw1 hg HB GE496; have n4_ := n3_; have n5_ := nlt hg BK496; have n6_ := nsy (nlt hg BK496); clear BK496; clear HB; have BK496 := n0_; have HB := n1_; have BK497 := n2_; have GW497 := n3_; have GE497 := n4_; have NB496_497 := n5_; have NB497_496 := n6_; clear n0_ n1_ n2_ n3_ n4_ n5_ n6_; clear hb hbox hg; have hnb12 := NB496_497.out; have hnc12 := NB497_496.out; have hcz13_0 : w11.cell? ⟨gb496, 0, none⟩ = some (.int .i64 a0_0) := bcl BK496 0; have hcz13_1 : w11.cell? ⟨gb496, 1, none⟩ = some (.int .i64 a0_1) := bcl BK496 1; have hfz13_0 := blk_frozen BK496.out 0; have hfz13_1 := blk_frozen BK496.out 1; have hcz14_0 : w11.cell? ⟨gb497, 0, none⟩ = some (.int .i64 a1_0) := bcl BK497 0; have hcz14_1 : w11.cell? ⟨gb497, 1, none⟩ = some (.int .i64 a1_1) := bcl BK497 1; have hfz14_0 := blk_frozen BK497.out 0; have hfz14_1 := blk_frozen BK497.out 1))
   go_ret
   exact ⟨by first | rfl | (simp [errW_none, errW_some] <;> rfl) | (simp [*, errW_none, errW_some] <;> rfl), bbw2 HB GE496 GE497⟩
  ·rw [if_neg c9] at H
   have c9b0 : (a0_0 == a1_0) = false := beq_eq_false_iff_ne.mpr c9
   have c9b1 : (a0_0 != a1_0) = true := bne_iff_ne.mpr c9
   obtain rfl := Option.some.inj H
   go_enter Try.func107, Try.ntmps107
   go_wp2_with (first | ((with_reducible refine gate_dst (N := 2) rfl ?_); refine box_event ?hg (N := 2) ?hd (cs := #[.int .i64 a0_0, .int .i64 a0_1]) (t := 34) ?hr ?_; (case hd => rfl); (case hg => rfl); (case hr => first | (go_simp; done) | (go_simp; rfl)); intro gb496 hg w15 hbox hb; have n0_ := Aside0.mk (bst0 HB hb); have n1_ := Aside0.mk (hbox); have n2_ := ngw0 hg HB; have n3_ := n2_; clear HB; have HB := n0_; have BK496 := n1_; have GW496 := n2_; have GE496 := n3_; clear n0_ n1_ n2_ n3_; clear hb hbox hg) | ((with_reducible refine gate_dst (N := 3) rfl ?_); refine box_event ?hg (N := 3) ?hd (cs := #[.int .i64 a1_0, .int .i64 a1_1]) (t := 34) ?hr ?_; (case hd => rfl); (case hg => rfl); (case hr => first | (go_simp; done) | (go_simp; rfl)); intro gb497 hg w16 hbox hb; have n0_ := Aside0.mk (bbl BK496 hb); have n1_ := Aside0.mk (bst1 HB GE496 hb); have n2_ := Aside0.mk (hbox); have n3_ := ngw1 hg HB GE496; have n4_ := n3_; have n5_ := nlt hg BK496; have n6_ := nsy (nlt hg BK496); clear BK496; clear HB; have BK496 := n0_; have HB := n1_; have BK497 := n2_; have GW497 := n3_; have GE497 := n4_; have NB496_497 := n5_; have NB497_496 := n6_; clear n0_ n1_ n2_ n3_ n4_ n5_ n6_; clear hb hbox hg; have hnb17 := NB496_497.out; have hnc17 := NB497_496.out; have hcz18_0 : w16.cell? ⟨gb496, 0, none⟩ = some (.int .i64 a0_0) := bcl BK496 0; have hcz18_1 : w16.cell? ⟨gb496, 1, none⟩ = some (.int .i64 a0_1) := bcl BK496 1; have hfz18_0 := blk_frozen BK496.out 0; have hfz18_1 := blk_frozen BK496.out 1; have hcz19_0 : w16.cell? ⟨gb497, 0, none⟩ = some (.int .i64 a1_0) := bcl BK497 0; have hcz19_1 : w16.cell? ⟨gb497, 1, none⟩ = some (.int .i64 a1_1) := bcl BK497 1; have hfz19_0 := blk_frozen BK497.out 0; have hfz19_1 := blk_frozen BK497.out 1))
   go_ret
   exact ⟨by first | rfl | (simp [errW_none, errW_some] <;> rfl) | (simp [*, errW_none, errW_some] <;> rfl), bbw2 HB GE496 GE497⟩


attribute [local go_sem high] eqA34
/-! ### spec_l02Axis: function 89 -/
def spec_l02Axis.j0 : Nat → Int → Int → Option (Int × Int)
 | 0, _, _ => none
 | k + 1, x501000, x501001 => (spec_l01Divisor.f k x501000 x501001).bind fun t501 => (if t501 = 0 then (none) else ((spec_l01Less.f (wrap64 (Int.tdiv x501000 t501)) (wrap64 (Int.tdiv x501001 t501)) 0 0).bind fun t502 => (if t502 = true then ((spec_l01Scale.f (wrap64 (Int.tdiv x501000 t501)) (wrap64 (Int.tdiv x501001 t501)) (-1)).bind fun bt503 => (some (bt503.1, bt503.2))) else (some (wrap64 (Int.tdiv x501000 t501), wrap64 (Int.tdiv x501001 t501))))))
def spec_l02Axis.f (k : Nat) (a0_0 : Int) (a0_1 : Int) (a0_2 : Int) (a0_3 : Int) : Option (Int × Int) := if ((wrap64 (a0_0 + 1)) == 0 && (a0_2 == 0)) = true then (spec_l02Axis.j0 k a0_1 (wrap64 (a0_3 + 1))) else (spec_l02Axis.j0 k (wrap64 (a0_0 + 1)) a0_2)
def spec_l02Axis.T5 : Bool × List (List Nat × List Nat) := (true, [([], []), ([0], [0]), ([], []), ([1, 2], [1, 2]), ([], []), ([4], [4]), ([], []), ([5, 6], [5, 6]), ([3, 7], [3, 7]), ([8, 0, 1, 2, 3, 4, 5, 6, 7, 8], [8])])
def spec_l02Axis.B5 : List Nat := [0, 1, 0, 7, 0, 16, 0, 112, 255, 511]
theorem spec_l02Axis.tab5 : rtab .any (opsOf Try.f89 5) = spec_l02Axis.T5 := by kernel_rfl
theorem spec_l02Axis.bits5 : waitsOk spec_l02Axis.T5.2 spec_l02Axis.B5 = true := by kernel_rfl
set_option maxHeartbeats 8000000 in
set_option maxRecDepth 100000 in
theorem spec_l02Axis.calls (k : Nat) (a0_0 : Int) (a0_1 : Int) (a0_2 : Int) (a0_3 : Int) (r1 : Int) (r2 : Int) (w : World) (h : spec_l02Axis.f k a0_0 a0_1 a0_2 a0_3 = some (r1, r2)) :
  Calls Try.prog 89 #[.agg #[.int .i64 a0_0, .int .i64 a0_1, .int .i64 a0_2, .int .i64 a0_3]] w fun e w' => e = .returned (.agg #[.int .i64 r1, .int .i64 r2]) ∧ Below w.heap.size w w' := by
 have hu33 := Try.underlying33
 have hu34 := Try.underlying34
 have HB := Aside0.mk (Below.refl w.heap.size w)
 have H : (if ((wrap64 (a0_0 + 1)) == 0 && (a0_2 == 0)) = true then (spec_l02Axis.j0 k a0_1 (wrap64 (a0_3 + 1))) else (spec_l02Axis.j0 k (wrap64 (a0_0 + 1)) a0_2)) = some (r1, r2) := h
 clear h
 have HC2 := Aside0.mk H
 clear H
 go_enter Try.func89, Try.ntmps89
 go_upto_if 13 with (first | ((with_reducible refine gate_dst (N := 1) rfl ?_); refine box_event ?hg (N := 1) ?hd (cs := #[.int .i64 a0_0, .int .i64 a0_1, .int .i64 a0_2, .int .i64 a0_3]) (t := 33) ?hr ?_; (case hd => rfl); (case hg => rfl); (case hr => first | (go_simp; done) | (go_simp; rfl)); intro gb498 hg w3 hbox hb; have n0_ := Aside0.mk (bst0 HB hb); have n1_ := Aside0.mk (hbox); have n2_ := ngw0 hg HB; have n3_ := n2_; clear HB; have HB := n0_; have BK498 := n1_; have GW498 := n2_; have GE498 := n3_; clear n0_ n1_ n2_ n3_; clear hb hbox hg) | ((with_reducible refine gate_dst (N := 2) rfl ?_); refine box_event ?hg (N := 2) ?hd (cs := #[.int .i64 0, .int .i64 0]) (t := 34) ?hr ?_; (case hd => rfl); (case hg => rfl); (case hr => first | (go_simp; done) | (go_simp; rfl)); intro gb499 hg w4 hbox hb; have n0_ := Aside0.mk (bbl BK498 hb); have n1_ := Aside0.mk (bst1 HB GE498 hb); have n2_ := Aside0.mk (hbox); have n3_ := ngw1 hg HB GE498; have n4_ := n3_; have n5_ := nlt hg BK498; have n6_ := nsy (nlt hg BK498); clear BK498; clear HB; have BK498 := n0_; have HB := n1_; have BK499 := n2_; have GW499 := n3_; have GE499 := n4_; have NB498_499 := n5_; have NB499_498 := n6_; clear n0_ n1_ n2_ n3_ n4_ n5_ n6_; clear hb hbox hg; have hnb5 := NB498_499.out; have hnc5 := NB499_498.out; have hcz6_0 : w4.cell? ⟨gb498, 0, none⟩ = some (.int .i64 a0_0) := bcl BK498 0; have hcz6_1 : w4.cell? ⟨gb498, 1, none⟩ = some (.int .i64 a0_1) := bcl BK498 1; have hcz6_2 : w4.cell? ⟨gb498, 2, none⟩ = some (.int .i64 a0_2) := bcl BK498 2; have hcz6_3 : w4.cell? ⟨gb498, 3, none⟩ = some (.int .i64 a0_3) := bcl BK498 3; have hfz6_0 := blk_frozen BK498.out 0; have hfz6_1 := blk_frozen BK498.out 1; have hfz6_2 := blk_frozen BK498.out 2; have hfz6_3 := blk_frozen BK498.out 3) | ((with_reducible refine gate_dst (N := 3) rfl ?_); refine box_event ?hg (N := 3) ?hd (cs := #[.int .i64 0, .int .i64 0]) (t := 34) ?hr ?_; (case hd => rfl); (case hg => rfl); (case hr => first | (go_simp; done) | (go_simp; rfl)); intro gb500 hg w7 hbox hb; have n0_ := Aside0.mk (bbl BK498 hb); have n1_ := Aside0.mk (bbl BK499 hb); have n2_ := Aside0.mk (bst2 HB GE498 GE499 hb); have n3_ := Aside0.mk (hbox); have n4_ := ngw2 hg HB GE498 GE499; have n5_ := n4_; have n6_ := nlt hg BK498; have n7_ := nsy (nlt hg BK498); have n8_ := nlt hg BK499; have n9_ := nsy (nlt hg BK499); clear BK498; clear BK499; clear HB; have BK498 := n0_; have BK499 := n1_; have HB := n2_; have BK500 := n3_; have GW500 := n4_; have GE500 := n5_; have NB498_500 := n6_; have NB500_498 := n7_; have NB499_500 := n8_; have NB500_499 := n9_; clear n0_ n1_ n2_ n3_ n4_ n5_ n6_ n7_ n8_ n9_; clear hb hbox hg; have hnb8 := NB500_498.out; have hnc8 := NB498_500.out; have hnb9 := NB500_499.out; have hnc9 := NB499_500.out; have hcz10_0 : w7.cell? ⟨gb500, 0, none⟩ = some (.int .i64 0) := bcl BK500 0; have hcz10_1 : w7.cell? ⟨gb500, 1, none⟩ = some (.int .i64 0) := bcl BK500 1; have hfz10_0 := blk_frozen BK500.out 0; have hfz10_1 := blk_frozen BK500.out 1))
 (try simp only [Act.put, sA, sB, sC])
 go_cut [] (fun wc => ∃ (kq : Nat) (x501000_1 : Int) (x501001_1 : Int), Aside0 (spec_l02Axis.j0 kq x501000_1 x501001_1 = some (r1, r2)) ∧ Aside0 (kq ≤ k) ∧ Aside0 (wc.heap[gb498]? = some (.cells #[.int .i64 a0_0, .int .i64 a0_1, .int .i64 a0_2, .int .i64 a0_3] 33 (0, 0))) ∧ Aside0 (wc.heap[gb499]? = some (.cells #[.int .i64 0, .int .i64 0] 34 (0, 0))) ∧ Aside0 (wc.heap[gb500]? = some (.cells #[.int .i64 x501000_1, .int .i64 x501001_1] 34 (0, 0))) ∧ Aside0 (Below w.heap.size w wc))
 case first =>
  have H := HC2.out
  clear HC2
  by_cases c11 : ((wrap64 (a0_0 + 1)) == 0 && (a0_2 == 0)) = true
  ·rw [if_pos c11] at H
   have c11b0 : ((wrap64 (a0_0 + 1)) == 0 && (a0_2 == 0)) = true := c11
   (try (have c11b1 : decide ((wrap64 (a0_0 + 1)) = 0 && (a0_2 == 0)) = true := by simpa using c11))
   (try (have c11b2 : ((wrap64 (a0_0 + 1)) == 0 && (a0_2 == 0)) = true := by simpa using c11))
   clear c11
   (first | rw [c11b0] | (simp only [i64_w, i32_w]; rw [c11b0]) | skip)
   have H' := Aside0.mk H
   clear H
   have hnb12 := NB498_499.out
   have hnc12 := NB499_498.out
   have hnb13 := NB498_500.out
   have hnc13 := NB500_498.out
   have hcz14_0 : w7.cell? ⟨gb498, 0, none⟩ = some (.int .i64 a0_0) := bcl BK498 0
   have hcz14_1 : w7.cell? ⟨gb498, 1, none⟩ = some (.int .i64 a0_1) := bcl BK498 1
   have hcz14_2 : w7.cell? ⟨gb498, 2, none⟩ = some (.int .i64 a0_2) := bcl BK498 2
   have hcz14_3 : w7.cell? ⟨gb498, 3, none⟩ = some (.int .i64 a0_3) := bcl BK498 3
   have hfz14_0 := blk_frozen BK498.out 0
   have hfz14_1 := blk_frozen BK498.out 1
   have hfz14_2 := blk_frozen BK498.out 2
   have hfz14_3 := blk_frozen BK498.out 3
   have hnb15 := NB500_499.out
   have hnc15 := NB499_500.out
   have hcz16_0 : w7.cell? ⟨gb500, 0, none⟩ = some (.int .i64 0) := bcl BK500 0
   have hcz16_1 : w7.cell? ⟨gb500, 1, none⟩ = some (.int .i64 0) := bcl BK500 1
   have hfz16_0 := blk_frozen BK500.out 0
   have hfz16_1 := blk_frozen BK500.out 1
   go_wp2
   go_meet
   case rel => exact ⟨_, (a0_1), (wrap64 (a0_3 + 1)), H', ⟨by first | omega | exact Nat.le_refl _⟩, ⟨by (with_reducible repeat (first | refine blk_drewN ?_ _ | refine blk_drew ?_ | refine blk_alloc ?_ _)); refine blk_far ?_ NB498_500.out _; (with_reducible repeat (first | refine blk_drewN ?_ _ | refine blk_drew ?_ | refine blk_alloc ?_ _)); refine blk_far ?_ NB498_500.out _; (with_reducible repeat (first | refine blk_drewN ?_ _ | refine blk_drew ?_ | refine blk_alloc ?_ _)); refine blk_far ?_ NB498_500.out _; (with_reducible repeat (first | refine blk_drewN ?_ _ | refine blk_drew ?_ | refine blk_alloc ?_ _)); refine blk_far ?_ NB498_500.out _; (with_reducible repeat (first | refine blk_drewN ?_ _ | refine blk_drew ?_ | refine blk_alloc ?_ _)); exact BK498.out⟩, ⟨by (with_reducible repeat (first | refine blk_drewN ?_ _ | refine blk_drew ?_ | refine blk_alloc ?_ _)); refine blk_far ?_ NB499_500.out _; (with_reducible repeat (first | refine blk_drewN ?_ _ | refine blk_drew ?_ | refine blk_alloc ?_ _)); refine blk_far ?_ NB499_500.out _; (with_reducible repeat (first | refine blk_drewN ?_ _ | refine blk_drew ?_ | refine blk_alloc ?_ _)); refine blk_far ?_ NB499_500.out _; (with_reducible repeat (first | refine blk_drewN ?_ _ | refine blk_drew ?_ | refine blk_alloc ?_ _)); refine blk_far ?_ NB499_500.out _; (with_reducible repeat (first | refine blk_drewN ?_ _ | refine blk_drew ?_ | refine blk_alloc ?_ _)); exact BK499.out⟩, ⟨by (with_reducible repeat (first | refine blk_drewN ?_ _ | refine blk_drew ?_ | refine blk_alloc ?_ _)); refine blk_put (cs := #[.int .i64 a0_1, .int .i64 a0_2]) ?_ 1 _ rfl; (with_reducible repeat (first | refine blk_drewN ?_ _ | refine blk_drew ?_ | refine blk_alloc ?_ _)); refine blk_put (cs := #[.int .i64 (wrap64 (a0_0 + 1)), .int .i64 a0_2]) ?_ 0 _ rfl; (with_reducible repeat (first | refine blk_drewN ?_ _ | refine blk_drew ?_ | refine blk_alloc ?_ _)); refine blk_put (cs := #[.int .i64 (wrap64 (a0_0 + 1)), .int .i64 0]) ?_ 1 _ rfl; (with_reducible repeat (first | refine blk_drewN ?_ _ | refine blk_drew ?_ | refine blk_alloc ?_ _)); refine blk_put (cs := #[.int .i64 0, .int .i64 0]) ?_ 0 _ rfl; (with_reducible repeat (first | refine blk_drewN ?_ _ | refine blk_drew ?_ | refine blk_alloc ?_ _)); exact BK500.out⟩, ⟨bbw3 HB GE498 GE499 GE500⟩⟩
  ·rw [if_neg c11] at H
   have c11b0 : ((wrap64 (a0_0 + 1)) == 0 && (a0_2 == 0)) = false := by simpa using c11
   (try (have c11b1 : decide ((wrap64 (a0_0 + 1)) = 0 && (a0_2 == 0)) = false := by simpa using c11))
   (try (have c11b2 : ((wrap64 (a0_0 + 1)) == 0 && (a0_2 == 0)) = false := by simpa using c11))
   (try (have c11b3 : ¬ ((wrap64 (a0_0 + 1)) = 0 && (a0_2 == 0)) := by simpa using c11))
   clear c11
   (first | rw [c11b0] | (simp only [i64_w, i32_w]; rw [c11b0]) | skip)
   have H' := Aside0.mk H
   clear H
   go_wp2
   go_meet
   case rel => exact ⟨_, (wrap64 (a0_0 + 1)), (a0_2), H', ⟨by first | omega | exact Nat.le_refl _⟩, ⟨by (with_reducible repeat (first | refine blk_drewN ?_ _ | refine blk_drew ?_ | refine blk_alloc ?_ _)); refine blk_far ?_ NB498_500.out _; (with_reducible repeat (first | refine blk_drewN ?_ _ | refine blk_drew ?_ | refine blk_alloc ?_ _)); refine blk_far ?_ NB498_500.out _; (with_reducible repeat (first | refine blk_drewN ?_ _ | refine blk_drew ?_ | refine blk_alloc ?_ _)); exact BK498.out⟩, ⟨by (with_reducible repeat (first | refine blk_drewN ?_ _ | refine blk_drew ?_ | refine blk_alloc ?_ _)); refine blk_far ?_ NB499_500.out _; (with_reducible repeat (first | refine blk_drewN ?_ _ | refine blk_drew ?_ | refine blk_alloc ?_ _)); refine blk_far ?_ NB499_500.out _; (with_reducible repeat (first | refine blk_drewN ?_ _ | refine blk_drew ?_ | refine blk_alloc ?_ _)); exact BK499.out⟩, ⟨by (with_reducible repeat (first | refine blk_drewN ?_ _ | refine blk_drew ?_ | refine blk_alloc ?_ _)); refine blk_put (cs := #[.int .i64 (wrap64 (a0_0 + 1)), .int .i64 0]) ?_ 1 _ rfl; (with_reducible repeat (first | refine blk_drewN ?_ _ | refine blk_drew ?_ | refine blk_alloc ?_ _)); refine blk_put (cs := #[.int .i64 0, .int .i64 0]) ?_ 0 _ rfl; (with_reducible repeat (first | refine blk_drewN ?_ _ | refine blk_drew ?_ | refine blk_alloc ?_ _)); exact BK500.out⟩, ⟨bbw3 HB GE498 GE499 GE500⟩⟩
 case rest =>
  clear HC2
  try clear c1
  try clear p2
  try clear c5
  try clear p6
  try clear c8
  try clear c9
  try clear c11
  try clear c11b0
  try clear c11b1
  try clear c11b2
  try clear c12
  try clear c13
  try clear c15
  try clear hcz10_0
  try clear hcz10_1
  try clear hcz14_0
  try clear hcz14_1
  try clear hcz14_2
  try clear hcz14_3
  try clear hcz16_0
  try clear hcz16_1
  try clear hcz6_0
  try clear hcz6_1
  try clear hcz6_2
  try clear hcz6_3
  try clear hfz10_0
  try clear hfz10_1
  try clear hfz14_0
  try clear hfz14_1
  try clear hfz14_2
  try clear hfz14_3
  try clear hfz16_0
  try clear hfz16_1
  try clear hfz6_0
  try clear hfz6_1
  try clear hfz6_2
  try clear hfz6_3
  obtain ⟨kq, x501000_1, x501001_1, HA, HJ1, BK498, BK499, BK500, HB⟩ := hcut
  cases kq with
  | zero => exact absurd HA.out (by simp [spec_l02Axis.j0])
  | succ kj1 =>
   have H := HA.out
   clear HA
   simp only [spec_l02Axis.j0] at H
   replace H := Option.bind_eq_some_iff.mp H
   obtain ⟨t501, A170, H⟩ := H
   replace H : (if t501 = 0 then (none) else ((spec_l01Less.f (wrap64 (Int.tdiv x501000_1 t501)) (wrap64 (Int.tdiv x501001_1 t501)) 0 0).bind fun t502 => (if t502 = true then ((spec_l01Scale.f (wrap64 (Int.tdiv x501000_1 t501)) (wrap64 (Int.tdiv x501001_1 t501)) (-1)).bind fun bt503 => (some (bt503.1, bt503.2))) else (some (wrap64 (Int.tdiv x501000_1 t501), wrap64 (Int.tdiv x501001_1 t501)))))) = some (r1, r2) := H
   have A17 := Aside0.mk A170
   clear A170
   by_cases c18 : t501 = 0
   ·rw [if_pos c18] at H
    exact absurd H (by simp)
   ·rw [if_neg c18] at H
    have c18b0 : (t501 == 0) = false := beq_eq_false_iff_ne.mpr c18
    have c18b1 : (t501 != 0) = true := bne_iff_ne.mpr c18
    replace H := Option.bind_eq_some_iff.mp H
    obtain ⟨t502, A190, H⟩ := H
    replace H : (if t502 = true then ((spec_l01Scale.f (wrap64 (Int.tdiv x501000_1 t501)) (wrap64 (Int.tdiv x501001_1 t501)) (-1)).bind fun bt503 => (some (bt503.1, bt503.2))) else (some (wrap64 (Int.tdiv x501000_1 t501), wrap64 (Int.tdiv x501001_1 t501)))) = some (r1, r2) := H
    have A19 := Aside0.mk A190
    clear A190
    by_cases c20 : t502 = true
    ·subst c20
     have H1 : ((spec_l01Scale.f (wrap64 (Int.tdiv x501000_1 t501)) (wrap64 (Int.tdiv x501001_1 t501)) (-1)).bind fun bt503 => (some (bt503.1, bt503.2))) = some (r1, r2) := by rw [if_pos rfl] at H; first | done | exact H
     clear H
     have H := H1
     clear H1
     replace H := Option.bind_eq_some_iff.mp H
     obtain ⟨⟨t503, t504⟩, A210, H⟩ := H
     replace H : (some (t503, t504)) = some (r1, r2) := H
     have A21 := Aside0.mk A210
     clear A210
     simp only [Option.some.injEq, Prod.mk.injEq] at H
     obtain ⟨rfl, rfl⟩ := H
     have hnb22 := NB500_498.out
     have hnc22 := NB498_500.out
     have hnb23 := NB500_499.out
     have hnc23 := NB499_500.out
     have hcz24_0 : wc.cell? ⟨gb500, 0, none⟩ = some (.int .i64 x501000_1) := bcl BK500 0
     have hcz24_1 : wc.cell? ⟨gb500, 1, none⟩ = some (.int .i64 x501001_1) := bcl BK500 1
     have hfz24_0 := blk_frozen BK500.out 0
     have hfz24_1 := blk_frozen BK500.out 1
     try go_wp2_with (first | ((with_reducible refine gate_callee (f := 101) rfl ?_); refine goesL_ (some 24) rfl rfl Try.func101 (by kernel_rfl) rfl #[.int .i64 x501000_1, .int .i64 x501001_1] rfl (by (try simp only [List.map_toArray, List.map_cons, List.map_nil]); first | done | rfl | (simp only [List.length_drop, List.length_take]; rfl)) ?_; (with_reducible refine (spec_l01Divisor.calls kj1 x501000_1 x501001_1 t501 _ A17.out).mono ?_); rintro e w25 ⟨rfl, hb⟩; refine ⟨_, rfl, ?_⟩; have n0_ := Aside0.mk (bbl BK498 hb); have n1_ := Aside0.mk (bbl BK499 hb); have n2_ := Aside0.mk (bbl BK500 hb); have n3_ := Aside0.mk (bst3 HB GE498 GE499 GE500 hb); clear BK498; clear BK499; clear BK500; clear HB; have BK498 := n0_; have BK499 := n1_; have BK500 := n2_; have HB := n3_; clear n0_ n1_ n2_ n3_; (try clear hb); (try clear hb2); (try clear hk); (try clear hi)))
     have n0_ := Aside0.mk (blk_drew BK498.out)
     have n1_ := Aside0.mk (blk_drew BK499.out)
     have n2_ := Aside0.mk (blk_drew BK500.out)
     have n3_ := Aside0.mk (below_drew1 HB.out)
     clear BK498
     clear BK499
     clear BK500
     clear HB
     have BK498 := n0_
     have BK499 := n1_
     have BK500 := n2_
     have HB := n3_
     clear n0_ n1_ n2_ n3_
     refine start_ (n := 10) (S := fun w' => w'.cell? ⟨gb500, 0, none⟩ = some (.int .i64 x501000_1) ∧ w'.cell? ⟨gb500, 1, none⟩ = some (.int .i64 x501001_1)) (ds := [9]) #[false, false, false, false, false, false, false, false, false, false] (by kernel_rfl) rfl rfl ⟨bcl BK500 0, bcl BK500 1⟩ (fun hHeld => ?_); refine with_tabW spec_l02Axis.tab5 spec_l02Axis.bits5 (fun HT_ HW_ => ?_)
     generalize w25.drew = w26 at BK498 BK499 BK500 HB hHeld ⊢
     refine pure_ (i := 0) (N := some 25) (v := ?_) (a' := ?_) #[true, false, false, false, false, false, false, false, false, false] rfl rfl (any_of HT_.out (by kernel_rfl)) (fun _ _ _ h => h) (Or.inl ⟨by rfl, ?_⟩) ?_ ?_
     rotate_left
     ·intro w'
      go_simp
      with_reducible rfl
     rotate_left
     ·simp only [Act.put, sA, sB, sC, i64_w, i32_w]
      rfl
     refine pure_ (i := 2) (N := some 27) (v := ?_) (a' := ?_) #[true, false, true, false, false, false, false, false, false, false] rfl rfl (any_of HT_.out (by kernel_rfl)) (fun _ _ _ h => h) (Or.inl ⟨by rfl, ?_⟩) ?_ ?_
     rotate_left
     ·intro w'
      go_simp
      with_reducible rfl
     rotate_left
     ·simp only [Act.put, sA, sB, sC, i64_w, i32_w]
      rfl
     refine pure_ (i := 4) (N := some 29) (v := ?_) (a' := ?_) #[true, false, true, false, true, false, false, false, false, false] rfl rfl (any_of HT_.out (by kernel_rfl)) (fun _ _ _ h => h) (Or.inl ⟨by rfl, ?_⟩) ?_ ?_
     rotate_left
     ·intro w'
      go_simp
      with_reducible rfl
     rotate_left
     ·simp only [Act.put, sA, sB, sC, i64_w, i32_w]
      rfl
     refine pure_ (i := 6) (N := some 31) (v := ?_) (a' := ?_) #[true, false, true, false, true, false, true, false, false, false] rfl rfl (any_of HT_.out (by kernel_rfl)) (fun _ _ _ h => h) (Or.inl ⟨by rfl, ?_⟩) ?_ ?_
     rotate_left
     ·intro w'
      go_simp
      with_reducible rfl
     rotate_left
     ·simp only [Act.put, sA, sB, sC, i64_w, i32_w]
      rfl
     refine take_ (i := 1) (N := some 26) (v := ?_) (a' := ?_) #[true, true, true, false, true, false, true, false, false, false] rfl rfl (take_ofW HT_.out HW_.out (by kernel_rfl)) (fun _ _ _ h => h) (Or.inl ⟨by rfl, ?_⟩) hHeld ?_ ?_
     rotate_left
     ·rintro w' ⟨s0, s1⟩
      go_simp
      with_reducible rfl
     rotate_left
     ·simp only [Act.put, sA, sB, sC, i64_w, i32_w]
      rfl
     refine pure_ (i := 3) (N := some 28) (v := ?_) (a' := ?_) #[true, true, true, true, true, false, true, false, false, false] rfl rfl (any_of HT_.out (by kernel_rfl)) (fun _ _ _ h => h) (Or.inl ⟨by rfl, ?_⟩) ?_ ?_
     rotate_left
     ·intro w'
      go_simp
      with_reducible rfl
     rotate_left
     ·simp only [Act.put, sA, sB, sC, i64_w, i32_w]
      rfl
     refine take_ (i := 5) (N := some 30) (v := ?_) (a' := ?_) #[true, true, true, true, true, true, true, false, false, false] rfl rfl (take_ofW HT_.out HW_.out (by kernel_rfl)) (fun _ _ _ h => h) (Or.inl ⟨by rfl, ?_⟩) hHeld ?_ ?_
     rotate_left
     ·rintro w' ⟨s0, s1⟩
      go_simp
      with_reducible rfl
     rotate_left
     ·simp only [Act.put, sA, sB, sC, i64_w, i32_w]
      rfl
     refine pure_ (i := 7) (N := some 32) (v := ?_) (a' := ?_) #[true, true, true, true, true, true, true, true, false, false] rfl rfl (any_of HT_.out (by kernel_rfl)) (fun _ _ _ h => h) (Or.inl ⟨by rfl, ?_⟩) ?_ ?_
     rotate_left
     ·intro w'
      go_simp
      with_reducible rfl
     rotate_left
     ·simp only [Act.put, sA, sB, sC, i64_w, i32_w]
      rfl
     refine pure_ (i := 8) (N := some 33) (v := ?_) (a' := ?_) #[true, true, true, true, true, true, true, true, true, false] rfl rfl (any_of HT_.out (by kernel_rfl)) (fun _ _ _ h => h) (Or.inl ⟨by rfl, ?_⟩) ?_ ?_
     rotate_left
     ·intro w'
      go_simp
      with_reducible rfl
     rotate_left
     ·simp only [Act.put, sA, sB, sC, i64_w, i32_w]
      rfl
     refine last_ (i := 9) (N := none) #[true, true, true, true, true, true, true, true, true, true] rfl rfl (one_of HT_.out (by kernel_rfl)) (by decide) (fun K hK => ?_)
     have hs27 : w26.cell? ⟨gb500, 0, none⟩ = some (.int .i64 x501000_1) := bcl BK500 0
     have hfs27 := blk_frozen BK500.out 0
     have hns27_0 := NB498_500.out
     have hns27_1 := NB499_500.out
     have hms27_0 := NB500_498.out
     have hms27_1 := NB500_499.out
     have hs28 : w26.cell? ⟨gb500, 1, none⟩ = some (.int .i64 x501001_1) := bcl BK500 1
     have hfs28 := blk_frozen BK500.out 1
     have hns28_0 := NB498_500.out
     have hns28_1 := NB499_500.out
     have hms28_0 := NB500_498.out
     have hms28_1 := NB500_499.out
     refine skip_ (w1 := ?_) (by rfl) rfl ?_ ?_
     rotate_left
     ·go_simp
      rfl
     refine hK.out _ _ ?_
     clear hK K
     refine done_ (done_of HT_.out (by kernel_rfl)) ?_
     have hcz29_0 : w26.cell? ⟨gb500, 0, none⟩ = some (.int .i64 x501000_1) := bcl BK500 0
     have hcz29_1 : w26.cell? ⟨gb500, 1, none⟩ = some (.int .i64 x501001_1) := bcl BK500 1
     have hfz29_0 := blk_frozen BK500.out 0
     have hfz29_1 := blk_frozen BK500.out 1
     try go_wp2_with (first | ((with_reducible refine gate_callee (f := 107) rfl ?_); refine goesL_ (some 36) rfl rfl Try.func107 (by kernel_rfl) rfl #[.agg #[.int .i64 (wrap64 (Int.tdiv x501000_1 t501)), .int .i64 (wrap64 (Int.tdiv x501001_1 t501))], .agg #[.int .i64 0, .int .i64 0]] rfl (by (try simp only [List.map_toArray, List.map_cons, List.map_nil]); first | done | rfl | (simp only [List.length_drop, List.length_take]; rfl)) ?_; (with_reducible refine (spec_l01Less.calls (wrap64 (Int.tdiv x501000_1 t501)) (wrap64 (Int.tdiv x501001_1 t501)) 0 0 true _ A19.out).mono ?_); rintro e w30 ⟨rfl, hb⟩; refine ⟨_, rfl, ?_⟩; have n0_ := Aside0.mk (blk_below (g := gb498) (o := .cells #[.int .i64 a0_0, .int .i64 a0_1, .int .i64 a0_2, .int .i64 a0_3] 33 (0, 0)) (by (with_reducible repeat (first | refine blk_drewN ?_ _ | refine blk_drew ?_ | refine blk_alloc ?_ _)); refine blk_far ?_ NB498_500.out _; (with_reducible repeat (first | refine blk_drewN ?_ _ | refine blk_drew ?_ | refine blk_alloc ?_ _)); refine blk_far ?_ NB498_500.out _; (with_reducible repeat (first | refine blk_drewN ?_ _ | refine blk_drew ?_ | refine blk_alloc ?_ _)); exact BK498.out) hb); have n1_ := Aside0.mk (blk_below (g := gb499) (o := .cells #[.int .i64 0, .int .i64 0] 34 (0, 0)) (by (with_reducible repeat (first | refine blk_drewN ?_ _ | refine blk_drew ?_ | refine blk_alloc ?_ _)); refine blk_far ?_ NB499_500.out _; (with_reducible repeat (first | refine blk_drewN ?_ _ | refine blk_drew ?_ | refine blk_alloc ?_ _)); refine blk_far ?_ NB499_500.out _; (with_reducible repeat (first | refine blk_drewN ?_ _ | refine blk_drew ?_ | refine blk_alloc ?_ _)); exact BK499.out) hb); have n2_ := Aside0.mk (blk_below (g := gb500) (o := .cells #[.int .i64 (wrap64 (Int.tdiv x501000_1 t501)), .int .i64 (wrap64 (Int.tdiv x501001_1 t501))] 34 (0, 0)) (by (with_reducible repeat (first | refine blk_drewN ?_ _ | refine blk_drew ?_ | refine blk_alloc ?_ _)); refine blk_put (cs := #[.int .i64 (wrap64 (Int.tdiv x501000_1 t501)), .int .i64 x501001_1]) ?_ 1 _ rfl; (with_reducible repeat (first | refine blk_drewN ?_ _ | refine blk_drew ?_ | refine blk_alloc ?_ _)); refine blk_put (cs := #[.int .i64 x501000_1, .int .i64 x501001_1]) ?_ 0 _ rfl; (with_reducible repeat (first | refine blk_drewN ?_ _ | refine blk_drew ?_ | refine blk_alloc ?_ _)); exact BK500.out) hb); have n3_ := Aside0.mk (bst3 HB GE498 GE499 GE500 hb); clear BK498; clear BK499; clear BK500; clear HB; have BK498 := n0_; have BK499 := n1_; have BK500 := n2_; have HB := n3_; clear n0_ n1_ n2_ n3_; (try clear hb); (try clear hb2); (try clear hk); (try clear hi); have hcz31_0 : w30.cell? ⟨gb500, 0, none⟩ = some (.int .i64 (wrap64 (Int.tdiv x501000_1 t501))) := bcl BK500 0; have hcz31_1 : w30.cell? ⟨gb500, 1, none⟩ = some (.int .i64 (wrap64 (Int.tdiv x501001_1 t501))) := bcl BK500 1; have hfz31_0 := blk_frozen BK500.out 0; have hfz31_1 := blk_frozen BK500.out 1) | ((with_reducible refine gate_callee (f := 90) rfl ?_); refine goesL_ (some 38) rfl rfl Try.func90 (by kernel_rfl) rfl #[.agg #[.int .i64 (wrap64 (Int.tdiv x501000_1 t501)), .int .i64 (wrap64 (Int.tdiv x501001_1 t501))], .int .i64 (-1)] rfl (by (try simp only [List.map_toArray, List.map_cons, List.map_nil]); first | done | rfl | (simp only [List.length_drop, List.length_take]; rfl)) ?_; (with_reducible refine (spec_l01Scale.calls (wrap64 (Int.tdiv x501000_1 t501)) (wrap64 (Int.tdiv x501001_1 t501)) (-1) t503 t504 _ A21.out).mono ?_); rintro e w32 ⟨rfl, hb⟩; refine ⟨_, rfl, ?_⟩; have n0_ := Aside0.mk (bbl BK498 hb); have n1_ := Aside0.mk (bbl BK499 hb); have n2_ := Aside0.mk (bbl BK500 hb); have n3_ := Aside0.mk (bst3 HB GE498 GE499 GE500 hb); clear BK498; clear BK499; clear BK500; clear HB; have BK498 := n0_; have BK499 := n1_; have BK500 := n2_; have HB := n3_; clear n0_ n1_ n2_ n3_; (try clear hb); (try clear hb2); (try clear hk); (try clear hi); have hcz33_0 : w32.cell? ⟨gb500, 0, none⟩ = some (.int .i64 (wrap64 (Int.tdiv x501000_1 t501))) := bcl BK500 0; have hcz33_1 : w32.cell? ⟨gb500, 1, none⟩ = some (.int .i64 (wrap64 (Int.tdiv x501001_1 t501))) := bcl BK500 1; have hfz33_0 := blk_frozen BK500.out 0; have hfz33_1 := blk_frozen BK500.out 1; have hnb34 := NB499_498.out; have hnc34 := NB498_499.out; have hcz35_0 : w32.cell? ⟨gb499, 0, none⟩ = some (.int .i64 0) := bcl BK499 0; have hcz35_1 : w32.cell? ⟨gb499, 1, none⟩ = some (.int .i64 0) := bcl BK499 1; have hfz35_0 := blk_frozen BK499.out 0; have hfz35_1 := blk_frozen BK499.out 1))
     refine bodyPost_ret (results_cell_row rfl _ _ gb499 34 #[.int .i64 t503, .int .i64 t504] (0, 0) _ rfl (by (with_reducible repeat (first | refine blk_drewN ?_ _ | refine blk_drew ?_ | refine blk_alloc ?_ _)); refine blk_put (cs := #[.int .i64 t503, .int .i64 0]) ?_ 1 _ rfl; (with_reducible repeat (first | refine blk_drewN ?_ _ | refine blk_drew ?_ | refine blk_alloc ?_ _)); refine blk_put (cs := #[.int .i64 0, .int .i64 0]) ?_ 0 _ rfl; (with_reducible repeat (first | refine blk_drewN ?_ _ | refine blk_drew ?_ | refine blk_alloc ?_ _)); refine blk_far ?_ NB499_500.out _; (with_reducible repeat (first | refine blk_drewN ?_ _ | refine blk_drew ?_ | refine blk_alloc ?_ _)); refine blk_far ?_ NB499_500.out _; (with_reducible repeat (first | refine blk_drewN ?_ _ | refine blk_drew ?_ | refine blk_alloc ?_ _)); exact BK499.out) Try.underlying34 rfl (by kernel_rfl)) rfl ?_
     exact ⟨by first | rfl | (simp [errW_none, errW_some] <;> rfl) | (simp [*, errW_none, errW_some] <;> rfl), bbw3 HB GE498 GE499 GE500⟩
    ·replace c20 := Bool.eq_false_iff.mpr c20
     subst c20
     have H1 : (some (wrap64 (Int.tdiv x501000_1 t501), wrap64 (Int.tdiv x501001_1 t501))) = some (r1, r2) := by rw [if_neg (show ¬ (false = true) by decide)] at H; first | done | exact H
     clear H
     have H := H1
     clear H1
     simp only [Option.some.injEq, Prod.mk.injEq] at H
     obtain ⟨rfl, rfl⟩ := H
     have hnb36 := NB500_498.out
     have hnc36 := NB498_500.out
     have hnb37 := NB500_499.out
     have hnc37 := NB499_500.out
     have hcz38_0 : wc.cell? ⟨gb500, 0, none⟩ = some (.int .i64 x501000_1) := bcl BK500 0
     have hcz38_1 : wc.cell? ⟨gb500, 1, none⟩ = some (.int .i64 x501001_1) := bcl BK500 1
     have hfz38_0 := blk_frozen BK500.out 0
     have hfz38_1 := blk_frozen BK500.out 1
     try go_wp2_with (first | ((with_reducible refine gate_callee (f := 101) rfl ?_); refine goesL_ (some 24) rfl rfl Try.func101 (by kernel_rfl) rfl #[.int .i64 x501000_1, .int .i64 x501001_1] rfl (by (try simp only [List.map_toArray, List.map_cons, List.map_nil]); first | done | rfl | (simp only [List.length_drop, List.length_take]; rfl)) ?_; (with_reducible refine (spec_l01Divisor.calls kj1 x501000_1 x501001_1 t501 _ A17.out).mono ?_); rintro e w39 ⟨rfl, hb⟩; refine ⟨_, rfl, ?_⟩; have n0_ := Aside0.mk (bbl BK498 hb); have n1_ := Aside0.mk (bbl BK499 hb); have n2_ := Aside0.mk (bbl BK500 hb); have n3_ := Aside0.mk (bst3 HB GE498 GE499 GE500 hb); clear BK498; clear BK499; clear BK500; clear HB; have BK498 := n0_; have BK499 := n1_; have BK500 := n2_; have HB := n3_; clear n0_ n1_ n2_ n3_; (try clear hb); (try clear hb2); (try clear hk); (try clear hi)))
     have n0_ := Aside0.mk (blk_drew BK498.out)
     have n1_ := Aside0.mk (blk_drew BK499.out)
     have n2_ := Aside0.mk (blk_drew BK500.out)
     have n3_ := Aside0.mk (below_drew1 HB.out)
     clear BK498
     clear BK499
     clear BK500
     clear HB
     have BK498 := n0_
     have BK499 := n1_
     have BK500 := n2_
     have HB := n3_
     clear n0_ n1_ n2_ n3_
     refine start_ (n := 10) (S := fun w' => w'.cell? ⟨gb500, 0, none⟩ = some (.int .i64 x501000_1) ∧ w'.cell? ⟨gb500, 1, none⟩ = some (.int .i64 x501001_1)) (ds := [9]) #[false, false, false, false, false, false, false, false, false, false] (by kernel_rfl) rfl rfl ⟨bcl BK500 0, bcl BK500 1⟩ (fun hHeld => ?_); refine with_tabW spec_l02Axis.tab5 spec_l02Axis.bits5 (fun HT_ HW_ => ?_)
     generalize w39.drew = w40 at BK498 BK499 BK500 HB hHeld ⊢
     refine pure_ (i := 0) (N := some 25) (v := ?_) (a' := ?_) #[true, false, false, false, false, false, false, false, false, false] rfl rfl (any_of HT_.out (by kernel_rfl)) (fun _ _ _ h => h) (Or.inl ⟨by rfl, ?_⟩) ?_ ?_
     rotate_left
     ·intro w'
      go_simp
      with_reducible rfl
     rotate_left
     ·simp only [Act.put, sA, sB, sC, i64_w, i32_w]
      rfl
     refine pure_ (i := 2) (N := some 27) (v := ?_) (a' := ?_) #[true, false, true, false, false, false, false, false, false, false] rfl rfl (any_of HT_.out (by kernel_rfl)) (fun _ _ _ h => h) (Or.inl ⟨by rfl, ?_⟩) ?_ ?_
     rotate_left
     ·intro w'
      go_simp
      with_reducible rfl
     rotate_left
     ·simp only [Act.put, sA, sB, sC, i64_w, i32_w]
      rfl
     refine pure_ (i := 4) (N := some 29) (v := ?_) (a' := ?_) #[true, false, true, false, true, false, false, false, false, false] rfl rfl (any_of HT_.out (by kernel_rfl)) (fun _ _ _ h => h) (Or.inl ⟨by rfl, ?_⟩) ?_ ?_
     rotate_left
     ·intro w'
      go_simp
      with_reducible rfl
     rotate_left
     ·simp only [Act.put, sA, sB, sC, i64_w, i32_w]
      rfl
     refine pure_ (i := 6) (N := some 31) (v := ?_) (a' := ?_) #[true, false, true, false, true, false, true, false, false, false] rfl rfl (any_of HT_.out (by kernel_rfl)) (fun _ _ _ h => h) (Or.inl ⟨by rfl, ?_⟩) ?_ ?_
     rotate_left
     ·intro w'
      go_simp
      with_reducible rfl
     rotate_left
     ·simp only [Act.put, sA, sB, sC, i64_w, i32_w]
      rfl
     refine take_ (i := 1) (N := some 26) (v := ?_) (a' := ?_) #[true, true, true, false, true, false, true, false, false, false] rfl rfl (take_ofW HT_.out HW_.out (by kernel_rfl)) (fun _ _ _ h => h) (Or.inl ⟨by rfl, ?_⟩) hHeld ?_ ?_
     rotate_left
     ·rintro w' ⟨s0, s1⟩
      go_simp
      with_reducible rfl
     rotate_left
     ·simp only [Act.put, sA, sB, sC, i64_w, i32_w]
      rfl
     refine pure_ (i := 3) (N := some 28) (v := ?_) (a' := ?_) #[true, true, true, true, true, false, true, false, false, false] rfl rfl (any_of HT_.out (by kernel_rfl)) (fun _ _ _ h => h) (Or.inl ⟨by rfl, ?_⟩) ?_ ?_
     rotate_left
     ·intro w'
      go_simp
      with_reducible rfl
     rotate_left
     ·simp only [Act.put, sA, sB, sC, i64_w, i32_w]
      rfl
     refine take_ (i := 5) (N := some 30) (v := ?_) (a' := ?_) #[true, true, true, true, true, true, true, false, false, false] rfl rfl (take_ofW HT_.out HW_.out (by kernel_rfl)) (fun _ _ _ h => h) (Or.inl ⟨by rfl, ?_⟩) hHeld ?_ ?_
     rotate_left
     ·rintro w' ⟨s0, s1⟩
      go_simp
      with_reducible rfl
     rotate_left
     ·simp only [Act.put, sA, sB, sC, i64_w, i32_w]
      rfl
     refine pure_ (i := 7) (N := some 32) (v := ?_) (a' := ?_) #[true, true, true, true, true, true, true, true, false, false] rfl rfl (any_of HT_.out (by kernel_rfl)) (fun _ _ _ h => h) (Or.inl ⟨by rfl, ?_⟩) ?_ ?_
     rotate_left
     ·intro w'
      go_simp
      with_reducible rfl
     rotate_left
     ·simp only [Act.put, sA, sB, sC, i64_w, i32_w]
      rfl
     refine pure_ (i := 8) (N := some 33) (v := ?_) (a' := ?_) #[true, true, true, true, true, true, true, true, true, false] rfl rfl (any_of HT_.out (by kernel_rfl)) (fun _ _ _ h => h) (Or.inl ⟨by rfl, ?_⟩) ?_ ?_
     rotate_left
     ·intro w'
      go_simp
      with_reducible rfl
     rotate_left
     ·simp only [Act.put, sA, sB, sC, i64_w, i32_w]
      rfl
     refine last_ (i := 9) (N := none) #[true, true, true, true, true, true, true, true, true, true] rfl rfl (one_of HT_.out (by kernel_rfl)) (by decide) (fun K hK => ?_)
     have hs41 : w40.cell? ⟨gb500, 0, none⟩ = some (.int .i64 x501000_1) := bcl BK500 0
     have hfs41 := blk_frozen BK500.out 0
     have hns41_0 := NB498_500.out
     have hns41_1 := NB499_500.out
     have hms41_0 := NB500_498.out
     have hms41_1 := NB500_499.out
     have hs42 : w40.cell? ⟨gb500, 1, none⟩ = some (.int .i64 x501001_1) := bcl BK500 1
     have hfs42 := blk_frozen BK500.out 1
     have hns42_0 := NB498_500.out
     have hns42_1 := NB499_500.out
     have hms42_0 := NB500_498.out
     have hms42_1 := NB500_499.out
     refine skip_ (w1 := ?_) (by rfl) rfl ?_ ?_
     rotate_left
     ·go_simp
      rfl
     refine hK.out _ _ ?_
     clear hK K
     refine done_ (done_of HT_.out (by kernel_rfl)) ?_
     have hcz43_0 : w40.cell? ⟨gb500, 0, none⟩ = some (.int .i64 x501000_1) := bcl BK500 0
     have hcz43_1 : w40.cell? ⟨gb500, 1, none⟩ = some (.int .i64 x501001_1) := bcl BK500 1
     have hfz43_0 := blk_frozen BK500.out 0
     have hfz43_1 := blk_frozen BK500.out 1
     try go_wp2_with (first | ((with_reducible refine gate_callee (f := 107) rfl ?_); refine goesL_ (some 36) rfl rfl Try.func107 (by kernel_rfl) rfl #[.agg #[.int .i64 (wrap64 (Int.tdiv x501000_1 t501)), .int .i64 (wrap64 (Int.tdiv x501001_1 t501))], .agg #[.int .i64 0, .int .i64 0]] rfl (by (try simp only [List.map_toArray, List.map_cons, List.map_nil]); first | done | rfl | (simp only [List.length_drop, List.length_take]; rfl)) ?_; (with_reducible refine (spec_l01Less.calls (wrap64 (Int.tdiv x501000_1 t501)) (wrap64 (Int.tdiv x501001_1 t501)) 0 0 false _ A19.out).mono ?_); rintro e w44 ⟨rfl, hb⟩; refine ⟨_, rfl, ?_⟩; have n0_ := Aside0.mk (blk_below (g := gb498) (o := .cells #[.int .i64 a0_0, .int .i64 a0_1, .int .i64 a0_2, .int .i64 a0_3] 33 (0, 0)) (by (with_reducible repeat (first | refine blk_drewN ?_ _ | refine blk_drew ?_ | refine blk_alloc ?_ _)); refine blk_far ?_ NB498_500.out _; (with_reducible repeat (first | refine blk_drewN ?_ _ | refine blk_drew ?_ | refine blk_alloc ?_ _)); refine blk_far ?_ NB498_500.out _; (with_reducible repeat (first | refine blk_drewN ?_ _ | refine blk_drew ?_ | refine blk_alloc ?_ _)); exact BK498.out) hb); have n1_ := Aside0.mk (blk_below (g := gb499) (o := .cells #[.int .i64 0, .int .i64 0] 34 (0, 0)) (by (with_reducible repeat (first | refine blk_drewN ?_ _ | refine blk_drew ?_ | refine blk_alloc ?_ _)); refine blk_far ?_ NB499_500.out _; (with_reducible repeat (first | refine blk_drewN ?_ _ | refine blk_drew ?_ | refine blk_alloc ?_ _)); refine blk_far ?_ NB499_500.out _; (with_reducible repeat (first | refine blk_drewN ?_ _ | refine blk_drew ?_ | refine blk_alloc ?_ _)); exact BK499.out) hb); have n2_ := Aside0.mk (blk_below (g := gb500) (o := .cells #[.int .i64 (wrap64 (Int.tdiv x501000_1 t501)), .int .i64 (wrap64 (Int.tdiv x501001_1 t501))] 34 (0, 0)) (by (with_reducible repeat (first | refine blk_drewN ?_ _ | refine blk_drew ?_ | refine blk_alloc ?_ _)); refine blk_put (cs := #[.int .i64 (wrap64 (Int.tdiv x501000_1 t501)), .int .i64 x501001_1]) ?_ 1 _ rfl; (with_reducible repeat (first | refine blk_drewN ?_ _ | refine blk_drew ?_ | refine blk_alloc ?_ _)); refine blk_put (cs := #[.int .i64 x501000_1, .int .i64 x501001_1]) ?_ 0 _ rfl; (with_reducible repeat (first | refine blk_drewN ?_ _ | refine blk_drew ?_ | refine blk_alloc ?_ _)); exact BK500.out) hb); have n3_ := Aside0.mk (bst3 HB GE498 GE499 GE500 hb); clear BK498; clear BK499; clear BK500; clear HB; have BK498 := n0_; have BK499 := n1_; have BK500 := n2_; have HB := n3_; clear n0_ n1_ n2_ n3_; (try clear hb); (try clear hb2); (try clear hk); (try clear hi); have hcz45_0 : w44.cell? ⟨gb500, 0, none⟩ = some (.int .i64 (wrap64 (Int.tdiv x501000_1 t501))) := bcl BK500 0; have hcz45_1 : w44.cell? ⟨gb500, 1, none⟩ = some (.int .i64 (wrap64 (Int.tdiv x501001_1 t501))) := bcl BK500 1; have hfz45_0 := blk_frozen BK500.out 0; have hfz45_1 := blk_frozen BK500.out 1; have hnb46 := NB499_498.out; have hnc46 := NB498_499.out; have hcz47_0 : w44.cell? ⟨gb499, 0, none⟩ = some (.int .i64 0) := bcl BK499 0; have hcz47_1 : w44.cell? ⟨gb499, 1, none⟩ = some (.int .i64 0) := bcl BK499 1; have hfz47_0 := blk_frozen BK499.out 0; have hfz47_1 := blk_frozen BK499.out 1))
     refine bodyPost_ret (results_cell_row rfl _ _ gb499 34 #[.int .i64 (wrap64 (Int.tdiv x501000_1 t501)), .int .i64 (wrap64 (Int.tdiv x501001_1 t501))] (0, 0) _ rfl (by (with_reducible repeat (first | refine blk_drewN ?_ _ | refine blk_drew ?_ | refine blk_alloc ?_ _)); refine blk_put (cs := #[.int .i64 (wrap64 (Int.tdiv x501000_1 t501)), .int .i64 0]) ?_ 1 _ rfl; (with_reducible repeat (first | refine blk_drewN ?_ _ | refine blk_drew ?_ | refine blk_alloc ?_ _)); refine blk_put (cs := #[.int .i64 0, .int .i64 0]) ?_ 0 _ rfl; (with_reducible repeat (first | refine blk_drewN ?_ _ | refine blk_drew ?_ | refine blk_alloc ?_ _)); exact BK499.out) Try.underlying34 rfl (by kernel_rfl)) rfl ?_
     exact ⟨by first | rfl | (simp [errW_none, errW_some] <;> rfl) | (simp [*, errW_none, errW_some] <;> rfl), bbw3 HB GE498 GE499 GE500⟩

/-! ### spec_l03Has: function 91 -/
def spec_l03Has.f (a0_0 : Int) (a0_1 : Int) (a0_2 : Int) (a1_0 : Int) (a1_1 : Int) : Option (Bool) := (spec_l03Reduce.f a0_0 a0_1 a0_2 a1_0 a1_1).bind fun bt507 => (some (bt507.1 == 0 && (bt507.2 == 0)))
set_option maxHeartbeats 8000000 in
set_option maxRecDepth 100000 in
theorem spec_l03Has.calls (a0_0 : Int) (a0_1 : Int) (a0_2 : Int) (a1_0 : Int) (a1_1 : Int) (r : Bool) (w : World) (h : spec_l03Has.f a0_0 a0_1 a0_2 a1_0 a1_1 = some r) :
  Calls Try.prog 91 #[.agg #[.int .i64 a0_0, .int .i64 a0_1, .int .i64 a0_2], .agg #[.int .i64 a1_0, .int .i64 a1_1]] w fun e w' => e = .returned (.bool r) ∧ Below w.heap.size w w' := by
 have hu31 := Try.underlying31
 have hu34 := Try.underlying34
 have HB := Aside0.mk (Below.refl w.heap.size w)
 have H : ((spec_l03Reduce.f a0_0 a0_1 a0_2 a1_0 a1_1).bind fun bt507 => (some (bt507.1 == 0 && (bt507.2 == 0)))) = some r := h
 clear h
 replace H := Option.bind_eq_some_iff.mp H
 obtain ⟨⟨t507, t508⟩, A30, H⟩ := H
 replace H : (some (t507 == 0 && (t508 == 0))) = some r := H
 have A3 := Aside0.mk A30
 clear A30
 obtain rfl := Option.some.inj H
 go_enter Try.func91, Try.ntmps91
 go_wp2_with (first | ((with_reducible refine gate_dst (N := 2) rfl ?_); refine box_event ?hg (N := 2) ?hd (cs := #[.int .i64 a0_0, .int .i64 a0_1, .int .i64 a0_2]) (t := 31) ?hr ?_; (case hd => rfl); (case hg => rfl); (case hr => first | (go_simp; done) | (go_simp; rfl)); intro gb505 hg w4 hbox hb; have n0_ := Aside0.mk (bst0 HB hb); have n1_ := Aside0.mk (hbox); have n2_ := ngw0 hg HB; have n3_ := n2_; clear HB; have HB := n0_; have BK505 := n1_; have GW505 := n2_; have GE505 := n3_; clear n0_ n1_ n2_ n3_; clear hb hbox hg) | ((with_reducible refine gate_dst (N := 3) rfl ?_); refine box_event ?hg (N := 3) ?hd (cs := #[.int .i64 a1_0, .int .i64 a1_1]) (t := 34) ?hr ?_; (case hd => rfl); (case hg => rfl); (case hr => first | (go_simp; done) | (go_simp; rfl)); intro gb506 hg w5 hbox hb; have n0_ := Aside0.mk (bbl BK505 hb); have n1_ := Aside0.mk (bst1 HB GE505 hb); have n2_ := Aside0.mk (hbox); have n3_ := ngw1 hg HB GE505; have n4_ := n3_; have n5_ := nlt hg BK505; have n6_ := nsy (nlt hg BK505); clear BK505; clear HB; have BK505 := n0_; have HB := n1_; have BK506 := n2_; have GW506 := n3_; have GE506 := n4_; have NB505_506 := n5_; have NB506_505 := n6_; clear n0_ n1_ n2_ n3_ n4_ n5_ n6_; clear hb hbox hg; have hnb6 := NB505_506.out; have hnc6 := NB506_505.out; have hcz7_0 : w5.cell? ⟨gb505, 0, none⟩ = some (.int .i64 a0_0) := bcl BK505 0; have hcz7_1 : w5.cell? ⟨gb505, 1, none⟩ = some (.int .i64 a0_1) := bcl BK505 1; have hcz7_2 : w5.cell? ⟨gb505, 2, none⟩ = some (.int .i64 a0_2) := bcl BK505 2; have hfz7_0 := blk_frozen BK505.out 0; have hfz7_1 := blk_frozen BK505.out 1; have hfz7_2 := blk_frozen BK505.out 2; have hcz8_0 : w5.cell? ⟨gb506, 0, none⟩ = some (.int .i64 a1_0) := bcl BK506 0; have hcz8_1 : w5.cell? ⟨gb506, 1, none⟩ = some (.int .i64 a1_1) := bcl BK506 1; have hfz8_0 := blk_frozen BK506.out 0; have hfz8_1 := blk_frozen BK506.out 1) | ((with_reducible refine gate_callee (f := 84) rfl ?_); refine goesL_ (some 7) rfl rfl Try.func84 (by kernel_rfl) rfl #[.agg #[.int .i64 a0_0, .int .i64 a0_1, .int .i64 a0_2], .agg #[.int .i64 a1_0, .int .i64 a1_1]] rfl (by (try simp only [List.map_toArray, List.map_cons, List.map_nil]); first | done | rfl | (simp only [List.length_drop, List.length_take]; rfl)) ?_; (with_reducible refine (spec_l03Reduce.calls a0_0 a0_1 a0_2 a1_0 a1_1 t507 t508 _ A3.out).mono ?_); rintro e w9 ⟨rfl, hb⟩; refine ⟨_, rfl, ?_⟩; have n0_ := Aside0.mk (bbl BK505 hb); have n1_ := Aside0.mk (bbl BK506 hb); have n2_ := Aside0.mk (bst2 HB GE505 GE506 hb); clear BK505; clear BK506; clear HB; have BK505 := n0_; have BK506 := n1_; have HB := n2_; clear n0_ n1_ n2_; (try clear hb); (try clear hb2); (try clear hk); (try clear hi)))
 go_ret
 exact ⟨by first | rfl | (simp [errW_none, errW_some] <;> rfl) | (simp [*, errW_none, errW_some] <;> rfl), bbw2 HB GE505 GE506⟩

/-! ### spec_l11Invariant: function 52 -/
def spec_l11Invariant.l0 : Nat → Int → Int → Int → Int → Int → Int → Option (Int × Int)
 | 0, _, _, _, _, _, _ => none
 | k + 1, x9, x510000, x510001, x510002, x516000, x516001 => (spec_l01Scale.f x516000 x516001 x9).bind fun bt516 => ((spec_l03Has.f x510000 x510001 x510002 bt516.1 bt516.2).bind fun t519 => (if t519 = true then (some (bt516.1, bt516.2)) else (spec_l11Invariant.l0 k (wrap64 (x9 + 1)) x510000 x510001 x510002 x516000 x516001)))
def spec_l11Invariant.f (k : Nat) (a0_0 : Int) (a0_1 : Int) (a0_2 : Int) (a1_0 : Int) (a1_1 : Int) (a1_2 : Int) (a1_3 : Int) (a2 : Int) : Option (Int × Int) := (spec_l02Axis.f k (wrap64 (a2 * a1_0)) (wrap64 (a2 * a1_1)) (wrap64 (a2 * a1_2)) (wrap64 (a2 * a1_3))).bind fun bt513 => (spec_l11Invariant.l0 k 1 a0_0 a0_1 a0_2 bt513.1 bt513.2)
set_option maxHeartbeats 8000000 in
set_option maxRecDepth 100000 in
theorem spec_l11Invariant.calls (k : Nat) (a0_0 : Int) (a0_1 : Int) (a0_2 : Int) (a1_0 : Int) (a1_1 : Int) (a1_2 : Int) (a1_3 : Int) (a2 : Int) (r1 : Int) (r2 : Int) (w : World) (h : spec_l11Invariant.f k a0_0 a0_1 a0_2 a1_0 a1_1 a1_2 a1_3 a2 = some (r1, r2)) :
  Calls Try.prog 52 #[.agg #[.int .i64 a0_0, .int .i64 a0_1, .int .i64 a0_2], .agg #[.int .i64 a1_0, .int .i64 a1_1, .int .i64 a1_2, .int .i64 a1_3], .int .i64 a2] w fun e w' => e = .returned (.agg #[.int .i64 r1, .int .i64 r2]) ∧ Below w.heap.size w w' := by
 have hu31 := Try.underlying31
 have hu33 := Try.underlying33
 have hu34 := Try.underlying34
 have HB := Aside0.mk (Below.refl w.heap.size w)
 have H : ((spec_l02Axis.f k (wrap64 (a2 * a1_0)) (wrap64 (a2 * a1_1)) (wrap64 (a2 * a1_2)) (wrap64 (a2 * a1_3))).bind fun bt513 => (spec_l11Invariant.l0 k 1 a0_0 a0_1 a0_2 bt513.1 bt513.2)) = some (r1, r2) := h
 clear h
 replace H := Option.bind_eq_some_iff.mp H
 obtain ⟨⟨t513, t514⟩, A40, H⟩ := H
 replace H : (spec_l11Invariant.l0 k 1 a0_0 a0_1 a0_2 t513 t514) = some (r1, r2) := H
 have A4 := Aside0.mk A40
 clear A40
 have H' := Aside0.mk H
 clear H
 go_enter Try.func52, Try.ntmps52
 go_wp2_with (first | ((with_reducible refine gate_dst (N := 3) rfl ?_); refine box_event ?hg (N := 3) ?hd (cs := #[.int .i64 a0_0, .int .i64 a0_1, .int .i64 a0_2]) (t := 31) ?hr ?_; (case hd => rfl); (case hg => rfl); (case hr => first | (go_simp; done) | (go_simp; rfl)); intro gb509 hg w5 hbox hb; have n0_ := Aside0.mk (bst0 HB hb); have n1_ := Aside0.mk (hbox); have n2_ := ngw0 hg HB; have n3_ := n2_; clear HB; have HB := n0_; have BK509 := n1_; have GW509 := n2_; have GE509 := n3_; clear n0_ n1_ n2_ n3_; clear hb hbox hg) | ((with_reducible refine gate_dst (N := 4) rfl ?_); refine box_event ?hg (N := 4) ?hd (cs := #[.int .i64 a1_0, .int .i64 a1_1, .int .i64 a1_2, .int .i64 a1_3]) (t := 33) ?hr ?_; (case hd => rfl); (case hg => rfl); (case hr => first | (go_simp; done) | (go_simp; rfl)); intro gb510 hg w6 hbox hb; have n0_ := Aside0.mk (bbl BK509 hb); have n1_ := Aside0.mk (bst1 HB GE509 hb); have n2_ := Aside0.mk (hbox); have n3_ := ngw1 hg HB GE509; have n4_ := n3_; have n5_ := nlt hg BK509; have n6_ := nsy (nlt hg BK509); clear BK509; clear HB; have BK509 := n0_; have HB := n1_; have BK510 := n2_; have GW510 := n3_; have GE510 := n4_; have NB509_510 := n5_; have NB510_509 := n6_; clear n0_ n1_ n2_ n3_ n4_ n5_ n6_; clear hb hbox hg) | ((with_reducible refine gate_dst (N := 6) rfl ?_); refine box_event ?hg (N := 6) ?hd (cs := #[.int .i64 0, .int .i64 0]) (t := 34) ?hr ?_; (case hd => rfl); (case hg => rfl); (case hr => first | (go_simp; done) | (go_simp; rfl)); intro gb511 hg w7 hbox hb; have n0_ := Aside0.mk (bbl BK509 hb); have n1_ := Aside0.mk (bbl BK510 hb); have n2_ := Aside0.mk (bst2 HB GE509 GE510 hb); have n3_ := Aside0.mk (hbox); have n4_ := ngw2 hg HB GE509 GE510; have n5_ := n4_; have n6_ := nlt hg BK509; have n7_ := nsy (nlt hg BK509); have n8_ := nlt hg BK510; have n9_ := nsy (nlt hg BK510); clear BK509; clear BK510; clear HB; have BK509 := n0_; have BK510 := n1_; have HB := n2_; have BK511 := n3_; have GW511 := n4_; have GE511 := n5_; have NB509_511 := n6_; have NB511_509 := n7_; have NB510_511 := n8_; have NB511_510 := n9_; clear n0_ n1_ n2_ n3_ n4_ n5_ n6_ n7_ n8_ n9_; clear hb hbox hg; have hnb8 := NB510_509.out; have hnc8 := NB509_510.out; have hnb9 := NB510_511.out; have hnc9 := NB511_510.out; have hcz10_0 : w7.cell? ⟨gb510, 0, none⟩ = some (.int .i64 a1_0) := bcl BK510 0; have hcz10_1 : w7.cell? ⟨gb510, 1, none⟩ = some (.int .i64 a1_1) := bcl BK510 1; have hcz10_2 : w7.cell? ⟨gb510, 2, none⟩ = some (.int .i64 a1_2) := bcl BK510 2; have hcz10_3 : w7.cell? ⟨gb510, 3, none⟩ = some (.int .i64 a1_3) := bcl BK510 3; have hfz10_0 := blk_frozen BK510.out 0; have hfz10_1 := blk_frozen BK510.out 1; have hfz10_2 := blk_frozen BK510.out 2; have hfz10_3 := blk_frozen BK510.out 3) | ((with_reducible refine gate_dst (N := 7) rfl ?_); refine box_event ?hg (N := 7) ?hd (cs := #[.int .i64 0, .int .i64 0, .int .i64 0, .int .i64 0]) (t := 33) ?hr ?_; (case hd => rfl); (case hg => rfl); (case hr => first | (go_simp; done) | (go_simp; rfl)); intro gb512 hg w11 hbox hb; have n0_ := Aside0.mk (bbl BK509 hb); have n1_ := Aside0.mk (bbl BK510 hb); have n2_ := Aside0.mk (bbl BK511 hb); have n3_ := Aside0.mk (bst3 HB GE509 GE510 GE511 hb); have n4_ := Aside0.mk (hbox); have n5_ := ngw3 hg HB GE509 GE510 GE511; have n6_ := n5_; have n7_ := nlt hg BK509; have n8_ := nsy (nlt hg BK509); have n9_ := nlt hg BK510; have n10_ := nsy (nlt hg BK510); have n11_ := nlt hg BK511; have n12_ := nsy (nlt hg BK511); clear BK509; clear BK510; clear BK511; clear HB; have BK509 := n0_; have BK510 := n1_; have BK511 := n2_; have HB := n3_; have BK512 := n4_; have GW512 := n5_; have GE512 := n6_; have NB509_512 := n7_; have NB512_509 := n8_; have NB510_512 := n9_; have NB512_510 := n10_; have NB511_512 := n11_; have NB512_511 := n12_; clear n0_ n1_ n2_ n3_ n4_ n5_ n6_ n7_ n8_ n9_ n10_ n11_ n12_; clear hb hbox hg; have hnb12 := NB512_509.out; have hnc12 := NB509_512.out; have hnb13 := NB512_510.out; have hnc13 := NB510_512.out; have hnb14 := NB512_511.out; have hnc14 := NB511_512.out; have hcz15_0 : w11.cell? ⟨gb512, 0, none⟩ = some (.int .i64 0) := bcl BK512 0; have hcz15_1 : w11.cell? ⟨gb512, 1, none⟩ = some (.int .i64 0) := bcl BK512 1; have hcz15_2 : w11.cell? ⟨gb512, 2, none⟩ = some (.int .i64 0) := bcl BK512 2; have hcz15_3 : w11.cell? ⟨gb512, 3, none⟩ = some (.int .i64 0) := bcl BK512 3; have hfz15_0 := blk_frozen BK512.out 0; have hfz15_1 := blk_frozen BK512.out 1; have hfz15_2 := blk_frozen BK512.out 2; have hfz15_3 := blk_frozen BK512.out 3) | ((with_reducible refine gate_callee (f := 89) rfl ?_); refine goesL_ (some 29) rfl rfl Try.func89 (by kernel_rfl) rfl #[.agg #[.int .i64 (wrap64 (a2 * a1_0)), .int .i64 (wrap64 (a2 * a1_1)), .int .i64 (wrap64 (a2 * a1_2)), .int .i64 (wrap64 (a2 * a1_3))]] rfl (by (try simp only [List.map_toArray, List.map_cons, List.map_nil]); first | done | rfl | (simp only [List.length_drop, List.length_take]; rfl)) ?_; (with_reducible refine (spec_l02Axis.calls k (wrap64 (a2 * a1_0)) (wrap64 (a2 * a1_1)) (wrap64 (a2 * a1_2)) (wrap64 (a2 * a1_3)) t513 t514 _ A4.out).mono ?_); rintro e w16 ⟨rfl, hb⟩; refine ⟨_, rfl, ?_⟩; have n0_ := Aside0.mk (blk_below (g := gb509) (o := .cells #[.int .i64 a0_0, .int .i64 a0_1, .int .i64 a0_2] 31 (0, 0)) (by (with_reducible repeat (first | refine blk_drewN ?_ _ | refine blk_drew ?_ | refine blk_alloc ?_ _)); refine blk_far ?_ NB509_512.out _; (with_reducible repeat (first | refine blk_drewN ?_ _ | refine blk_drew ?_ | refine blk_alloc ?_ _)); refine blk_far ?_ NB509_512.out _; (with_reducible repeat (first | refine blk_drewN ?_ _ | refine blk_drew ?_ | refine blk_alloc ?_ _)); refine blk_far ?_ NB509_512.out _; (with_reducible repeat (first | refine blk_drewN ?_ _ | refine blk_drew ?_ | refine blk_alloc ?_ _)); refine blk_far ?_ NB509_512.out _; (with_reducible repeat (first | refine blk_drewN ?_ _ | refine blk_drew ?_ | refine blk_alloc ?_ _)); exact BK509.out) hb); have n1_ := Aside0.mk (blk_below (g := gb510) (o := .cells #[.int .i64 a1_0, .int .i64 a1_1, .int .i64 a1_2, .int .i64 a1_3] 33 (0, 0)) (by (with_reducible repeat (first | refine blk_drewN ?_ _ | refine blk_drew ?_ | refine blk_alloc ?_ _)); refine blk_far ?_ NB510_512.out _; (with_reducible repeat (first | refine blk_drewN ?_ _ | refine blk_drew ?_ | refine blk_alloc ?_ _)); refine blk_far ?_ NB510_512.out _; (with_reducible repeat (first | refine blk_drewN ?_ _ | refine blk_drew ?_ | refine blk_alloc ?_ _)); refine blk_far ?_ NB510_512.out _; (with_reducible repeat (first | refine blk_drewN ?_ _ | refine blk_drew ?_ | refine blk_alloc ?_ _)); refine blk_far ?_ NB510_512.out _; (with_reducible repeat (first | refine blk_drewN ?_ _ | refine blk_drew ?_ | refine blk_alloc ?_ _)); exact BK510.out) hb); have n2_ := Aside0.mk (blk_below (g := gb511) (o := .cells #[.int .i64 0, .int .i64 0] 34 (0, 0)) (by (with_reducible repeat (first | refine blk_drewN ?_ _ | refine blk_drew ?_ | refine blk_alloc ?_ _)); refine blk_far ?_ NB511_512.out _; (with_reducible repeat (first | refine blk_drewN ?_ _ | refine blk_drew ?_ | refine blk_alloc ?_ _)); refine blk_far ?_ NB511_512.out _; (with_reducible repeat (first | refine blk_drewN ?_ _ | refine blk_drew ?_ | refine blk_alloc ?_ _)); refine blk_far ?_ NB511_512.out _; (with_reducible repeat (first | refine blk_drewN ?_ _ | refine blk_drew ?_ | refine blk_alloc ?_ _)); refine blk_far ?_ NB511_512.out _; (with_reducible repeat (first | refine blk_drewN ?_ _ | refine blk_drew ?_ | refine blk_alloc ?_ _)); exact BK511.out) hb); have n3_ := Aside0.mk (blk_below (g := gb512) (o := .cells #[.int .i64 (wrap64 (a2 * a1_0)), .int .i64 (wrap64 (a2 * a1_1)), .int .i64 (wrap64 (a2 * a1_2)), .int .i64 (wrap64 (a2 * a1_3))] 33 (0, 0)) (by (with_reducible repeat (first | refine blk_drewN ?_ _ | refine blk_drew ?_ | refine blk_alloc ?_ _)); refine blk_put (cs := #[.int .i64 (wrap64 (a2 * a1_0)), .int .i64 (wrap64 (a2 * a1_1)), .int .i64 (wrap64 (a2 * a1_2)), .int .i64 0]) ?_ 3 _ rfl; (with_reducible repeat (first | refine blk_drewN ?_ _ | refine blk_drew ?_ | refine blk_alloc ?_ _)); refine blk_put (cs := #[.int .i64 (wrap64 (a2 * a1_0)), .int .i64 (wrap64 (a2 * a1_1)), .int .i64 0, .int .i64 0]) ?_ 2 _ rfl; (with_reducible repeat (first | refine blk_drewN ?_ _ | refine blk_drew ?_ | refine blk_alloc ?_ _)); refine blk_put (cs := #[.int .i64 (wrap64 (a2 * a1_0)), .int .i64 0, .int .i64 0, .int .i64 0]) ?_ 1 _ rfl; (with_reducible repeat (first | refine blk_drewN ?_ _ | refine blk_drew ?_ | refine blk_alloc ?_ _)); refine blk_put (cs := #[.int .i64 0, .int .i64 0, .int .i64 0, .int .i64 0]) ?_ 0 _ rfl; (with_reducible repeat (first | refine blk_drewN ?_ _ | refine blk_drew ?_ | refine blk_alloc ?_ _)); exact BK512.out) hb); have n4_ := Aside0.mk (bst4 HB GE509 GE510 GE511 GE512 hb); clear BK509; clear BK510; clear BK511; clear BK512; clear HB; have BK509 := n0_; have BK510 := n1_; have BK511 := n2_; have BK512 := n3_; have HB := n4_; clear n0_ n1_ n2_ n3_ n4_; (try clear hb); (try clear hb2); (try clear hk); (try clear hi)) | ((with_reducible refine gate_dst (N := 8) rfl ?_); refine box_event ?hg (N := 8) ?hd (cs := #[.int .i64 0, .int .i64 0]) (t := 34) ?hr ?_; (case hd => rfl); (case hg => rfl); (case hr => first | (go_simp; done) | (go_simp; rfl)); intro gb515 hg w17 hbox hb; have n0_ := Aside0.mk (bbl BK509 hb); have n1_ := Aside0.mk (bbl BK510 hb); have n2_ := Aside0.mk (bbl BK511 hb); have n3_ := Aside0.mk (bbl BK512 hb); have n4_ := Aside0.mk (bst4 HB GE509 GE510 GE511 GE512 hb); have n5_ := Aside0.mk (hbox); have n6_ := ngw4 hg HB GE509 GE510 GE511 GE512; have n7_ := n6_; have n8_ := nlt hg BK509; have n9_ := nsy (nlt hg BK509); have n10_ := nlt hg BK510; have n11_ := nsy (nlt hg BK510); have n12_ := nlt hg BK511; have n13_ := nsy (nlt hg BK511); have n14_ := nlt hg BK512; have n15_ := nsy (nlt hg BK512); clear BK509; clear BK510; clear BK511; clear BK512; clear HB; have BK509 := n0_; have BK510 := n1_; have BK511 := n2_; have BK512 := n3_; have HB := n4_; have BK515 := n5_; have GW515 := n6_; have GE515 := n7_; have NB509_515 := n8_; have NB515_509 := n9_; have NB510_515 := n10_; have NB515_510 := n11_; have NB511_515 := n12_; have NB515_511 := n13_; have NB512_515 := n14_; have NB515_512 := n15_; clear n0_ n1_ n2_ n3_ n4_ n5_ n6_ n7_ n8_ n9_ n10_ n11_ n12_ n13_ n14_ n15_; clear hb hbox hg; have hnb18 := NB515_509.out; have hnc18 := NB509_515.out; have hnb19 := NB515_510.out; have hnc19 := NB510_515.out; have hnb20 := NB515_511.out; have hnc20 := NB511_515.out; have hnb21 := NB515_512.out; have hnc21 := NB512_515.out; have hcz22_0 : w17.cell? ⟨gb515, 0, none⟩ = some (.int .i64 0) := bcl BK515 0; have hcz22_1 : w17.cell? ⟨gb515, 1, none⟩ = some (.int .i64 0) := bcl BK515 1; have hfz22_0 := blk_frozen BK515.out 0; have hfz22_1 := blk_frozen BK515.out 1))
 go_loopg [9] k (fun kq v9 w' => ∃ (x9_1 : Int) (x512000_1 : Int) (x512001_1 : Int), v9 = .int .i64 x9_1 ∧ Aside0 (spec_l11Invariant.l0 kq x9_1 a0_0 a0_1 a0_2 t513 t514 = some (r1, r2)) ∧ Aside0 (kq ≤ k) ∧ Aside0 (w'.heap[gb509]? = some (.cells #[.int .i64 a0_0, .int .i64 a0_1, .int .i64 a0_2] 31 (0, 0))) ∧ Aside0 (w'.heap[gb510]? = some (.cells #[.int .i64 a1_0, .int .i64 a1_1, .int .i64 a1_2, .int .i64 a1_3] 33 (0, 0))) ∧ Aside0 (w'.heap[gb511]? = some (.cells #[.int .i64 x512000_1, .int .i64 x512001_1] 34 (0, 0))) ∧ Aside0 (w'.heap[gb512]? = some (.cells #[.int .i64 (wrap64 (a2 * a1_0)), .int .i64 (wrap64 (a2 * a1_1)), .int .i64 (wrap64 (a2 * a1_2)), .int .i64 (wrap64 (a2 * a1_3))] 33 (0, 0))) ∧ Aside0 (w'.heap[gb515]? = some (.cells #[.int .i64 t513, .int .i64 t514] 34 (0, 0))) ∧ Aside0 (Below w.heap.size w w'))
 case atStart => exact ⟨(1), (0), (0), (by first | rfl | (simp; done) | (simp [*]; done)), H', ⟨Nat.le_refl _⟩, ⟨by (with_reducible repeat (first | refine blk_drewN ?_ _ | refine blk_drew ?_ | refine blk_alloc ?_ _)); refine blk_far ?_ NB509_515.out _; (with_reducible repeat (first | refine blk_drewN ?_ _ | refine blk_drew ?_ | refine blk_alloc ?_ _)); refine blk_far ?_ NB509_515.out _; (with_reducible repeat (first | refine blk_drewN ?_ _ | refine blk_drew ?_ | refine blk_alloc ?_ _)); exact BK509.out⟩, ⟨by (with_reducible repeat (first | refine blk_drewN ?_ _ | refine blk_drew ?_ | refine blk_alloc ?_ _)); refine blk_far ?_ NB510_515.out _; (with_reducible repeat (first | refine blk_drewN ?_ _ | refine blk_drew ?_ | refine blk_alloc ?_ _)); refine blk_far ?_ NB510_515.out _; (with_reducible repeat (first | refine blk_drewN ?_ _ | refine blk_drew ?_ | refine blk_alloc ?_ _)); exact BK510.out⟩, ⟨by (with_reducible repeat (first | refine blk_drewN ?_ _ | refine blk_drew ?_ | refine blk_alloc ?_ _)); refine blk_far ?_ NB511_515.out _; (with_reducible repeat (first | refine blk_drewN ?_ _ | refine blk_drew ?_ | refine blk_alloc ?_ _)); refine blk_far ?_ NB511_515.out _; (with_reducible repeat (first | refine blk_drewN ?_ _ | refine blk_drew ?_ | refine blk_alloc ?_ _)); exact BK511.out⟩, ⟨by (with_reducible repeat (first | refine blk_drewN ?_ _ | refine blk_drew ?_ | refine blk_alloc ?_ _)); refine blk_far ?_ NB512_515.out _; (with_reducible repeat (first | refine blk_drewN ?_ _ | refine blk_drew ?_ | refine blk_alloc ?_ _)); refine blk_far ?_ NB512_515.out _; (with_reducible repeat (first | refine blk_drewN ?_ _ | refine blk_drew ?_ | refine blk_alloc ?_ _)); exact BK512.out⟩, ⟨by (with_reducible repeat (first | refine blk_drewN ?_ _ | refine blk_drew ?_ | refine blk_alloc ?_ _)); refine blk_put (cs := #[.int .i64 t513, .int .i64 0]) ?_ 1 _ rfl; (with_reducible repeat (first | refine blk_drewN ?_ _ | refine blk_drew ?_ | refine blk_alloc ?_ _)); refine blk_put (cs := #[.int .i64 0, .int .i64 0]) ?_ 0 _ rfl; (with_reducible repeat (first | refine blk_drewN ?_ _ | refine blk_drew ?_ | refine blk_alloc ?_ _)); exact BK515.out⟩, ⟨by repeat (first | (with_reducible first | exact HB.out | apply below_alloc | apply pw_below_drewN | apply below_drew1 | refine below_set ?_ GE509.out | refine below_set ?_ GE510.out | refine below_set ?_ GE511.out | refine below_set ?_ GE512.out | refine below_set ?_ GE515.out) | exact HB.out)⟩⟩
 case round =>
  clear H'
  try clear c1
  try clear c2
  try clear p2
  try clear c5
  try clear p6
  try clear c8
  try clear c9
  try clear c12
  try clear c13
  try clear c14
  try clear c18
  try clear c19
  try clear c20
  try clear c21
  try clear hcz10_0
  try clear hcz10_1
  try clear hcz10_2
  try clear hcz10_3
  try clear hcz15_0
  try clear hcz15_1
  try clear hcz15_2
  try clear hcz15_3
  try clear hcz22_0
  try clear hcz22_1
  try clear hfz10_0
  try clear hfz10_1
  try clear hfz10_2
  try clear hfz10_3
  try clear hfz15_0
  try clear hfz15_1
  try clear hfz15_2
  try clear hfz15_3
  try clear hfz22_0
  try clear hfz22_1
  obtain ⟨x9_1, x512000_1, x512001_1, rfl, HA, HK1, BK509, BK510, BK511, BK512, BK515, HB⟩ := hrel
  cases gk with
  | zero => exact absurd HA.out (by simp [spec_l11Invariant.l0])
  | succ k1 =>
   have H := HA.out
   clear HA
   simp only [spec_l11Invariant.l0] at H
   replace H := Option.bind_eq_some_iff.mp H
   obtain ⟨⟨t516, t517⟩, A230, H⟩ := H
   replace H : ((spec_l03Has.f a0_0 a0_1 a0_2 t516 t517).bind fun t519 => (if t519 = true then (some (t516, t517)) else (spec_l11Invariant.l0 k1 (wrap64 (x9_1 + 1)) a0_0 a0_1 a0_2 t513 t514))) = some (r1, r2) := H
   have A23 := Aside0.mk A230
   clear A230
   replace H := Option.bind_eq_some_iff.mp H
   obtain ⟨t519, A240, H⟩ := H
   replace H : (if t519 = true then (some (t516, t517)) else (spec_l11Invariant.l0 k1 (wrap64 (x9_1 + 1)) a0_0 a0_1 a0_2 t513 t514)) = some (r1, r2) := H
   have A24 := Aside0.mk A240
   clear A240
   by_cases c25 : t519 = true
   ·subst c25
    have H1 : (some (t516, t517)) = some (r1, r2) := by rw [if_pos rfl] at H; first | done | exact H
    clear H
    have H := H1
    clear H1
    simp only [Option.some.injEq, Prod.mk.injEq] at H
    obtain ⟨rfl, rfl⟩ := H
    have hnb26 := NB515_509.out
    have hnc26 := NB509_515.out
    have hnb27 := NB515_510.out
    have hnc27 := NB510_515.out
    have hnb28 := NB515_511.out
    have hnc28 := NB511_515.out
    have hnb29 := NB515_512.out
    have hnc29 := NB512_515.out
    have hcz30_0 : wr.cell? ⟨gb515, 0, none⟩ = some (.int .i64 t513) := bcl BK515 0
    have hcz30_1 : wr.cell? ⟨gb515, 1, none⟩ = some (.int .i64 t514) := bcl BK515 1
    have hfz30_0 := blk_frozen BK515.out 0
    have hfz30_1 := blk_frozen BK515.out 1
    go_wp2_with (first | ((with_reducible refine gate_callee (f := 90) rfl ?_); refine goesL_ (some 34) rfl rfl Try.func90 (by kernel_rfl) rfl #[.agg #[.int .i64 t513, .int .i64 t514], .int .i64 x9_1] rfl (by (try simp only [List.map_toArray, List.map_cons, List.map_nil]); first | done | rfl | (simp only [List.length_drop, List.length_take]; rfl)) ?_; (with_reducible refine (spec_l01Scale.calls t513 t514 x9_1 t516 t517 _ A23.out).mono ?_); rintro e w31 ⟨rfl, hb⟩; refine ⟨_, rfl, ?_⟩; have n0_ := Aside0.mk (bbl BK509 hb); have n1_ := Aside0.mk (bbl BK510 hb); have n2_ := Aside0.mk (bbl BK511 hb); have n3_ := Aside0.mk (bbl BK512 hb); have n4_ := Aside0.mk (bbl BK515 hb); have n5_ := Aside0.mk (below_step (by repeat (first | (with_reducible first | exact HB.out | apply below_alloc | apply pw_below_drewN | apply below_drew1 | refine below_set ?_ GE509.out | refine below_set ?_ GE510.out | refine below_set ?_ GE511.out | refine below_set ?_ GE512.out | refine below_set ?_ GE515.out) | exact HB.out)) hb); clear BK509; clear BK510; clear BK511; clear BK512; clear BK515; clear HB; have BK509 := n0_; have BK510 := n1_; have BK511 := n2_; have BK512 := n3_; have BK515 := n4_; have HB := n5_; clear n0_ n1_ n2_ n3_ n4_ n5_; (try clear hb); (try clear hb2); (try clear hk); (try clear hi)) | ((with_reducible refine gate_dst (N := 10) rfl ?_); refine box_event ?hg (N := 10) ?hd (cs := #[.int .i64 0, .int .i64 0]) (t := 34) ?hr ?_; (case hd => rfl); (case hg => rfl); (case hr => first | (go_simp; done) | (go_simp; rfl)); intro gb518 hg w32 hbox hb; have n0_ := Aside0.mk (bbl BK509 hb); have n1_ := Aside0.mk (bbl BK510 hb); have n2_ := Aside0.mk (bbl BK511 hb); have n3_ := Aside0.mk (bbl BK512 hb); have n4_ := Aside0.mk (bbl BK515 hb); have n5_ := Aside0.mk (below_step (by repeat (first | (with_reducible first | exact HB.out | apply below_alloc | apply pw_below_drewN | apply below_drew1 | refine below_set ?_ GE509.out | refine below_set ?_ GE510.out | refine below_set ?_ GE511.out | refine below_set ?_ GE512.out | refine below_set ?_ GE515.out) | exact HB.out)) hb); have n6_ := Aside0.mk (hbox); have n7_ := Aside0.mk ((by rw [hg]; exact (below_size (by repeat (first | (with_reducible first | exact HB.out | apply below_alloc | apply pw_below_drewN | apply below_drew1 | refine below_set ?_ GE509.out | refine below_set ?_ GE510.out | refine below_set ?_ GE511.out | refine below_set ?_ GE512.out | refine below_set ?_ GE515.out) | exact HB.out))) : w.heap.size ≤ gb518)); have n8_ := Aside0.mk ((by rw [hg]; exact (below_size (by repeat (first | (with_reducible first | exact HB.out | apply below_alloc | apply pw_below_drewN | apply below_drew1 | refine below_set ?_ GE509.out | refine below_set ?_ GE510.out | refine below_set ?_ GE511.out | refine below_set ?_ GE512.out | refine below_set ?_ GE515.out) | exact HB.out))) : w.heap.size ≤ gb518)); have n9_ := nlt hg BK509; have n10_ := nsy (nlt hg BK509); have n11_ := nlt hg BK510; have n12_ := nsy (nlt hg BK510); have n13_ := nlt hg BK511; have n14_ := nsy (nlt hg BK511); have n15_ := nlt hg BK512; have n16_ := nsy (nlt hg BK512); have n17_ := nlt hg BK515; have n18_ := nsy (nlt hg BK515); clear BK509; clear BK510; clear BK511; clear BK512; clear BK515; clear HB; have BK509 := n0_; have BK510 := n1_; have BK511 := n2_; have BK512 := n3_; have BK515 := n4_; have HB := n5_; have BK518 := n6_; have GW518 := n7_; have GE518 := n8_; have NB509_518 := n9_; have NB518_509 := n10_; have NB510_518 := n11_; have NB518_510 := n12_; have NB511_518 := n13_; have NB518_511 := n14_; have NB512_518 := n15_; have NB518_512 := n16_; have NB515_518 := n17_; have NB518_515 := n18_; clear n0_ n1_ n2_ n3_ n4_ n5_ n6_ n7_ n8_ n9_ n10_ n11_ n12_ n13_ n14_ n15_ n16_ n17_ n18_; clear hb hbox hg; have hnb33 := NB518_509.out; have hnc33 := NB509_518.out; have hnb34 := NB518_510.out; have hnc34 := NB510_518.out; have hnb35 := NB518_511.out; have hnc35 := NB511_518.out; have hnb36 := NB518_512.out; have hnc36 := NB512_518.out; have hnb37 := NB518_515.out; have hnc37 := NB515_518.out; have hcz38_0 : w32.cell? ⟨gb518, 0, none⟩ = some (.int .i64 0) := bcl BK518 0; have hcz38_1 : w32.cell? ⟨gb518, 1, none⟩ = some (.int .i64 0) := bcl BK518 1; have hfz38_0 := blk_frozen BK518.out 0; have hfz38_1 := blk_frozen BK518.out 1; have hnb39 := NB509_510.out; have hnc39 := NB510_509.out; have hnb40 := NB509_511.out; have hnc40 := NB511_509.out; have hnb41 := NB509_512.out; have hnc41 := NB512_509.out; have hcz42_0 : w32.cell? ⟨gb509, 0, none⟩ = some (.int .i64 a0_0) := bcl BK509 0; have hcz42_1 : w32.cell? ⟨gb509, 1, none⟩ = some (.int .i64 a0_1) := bcl BK509 1; have hcz42_2 : w32.cell? ⟨gb509, 2, none⟩ = some (.int .i64 a0_2) := bcl BK509 2; have hfz42_0 := blk_frozen BK509.out 0; have hfz42_1 := blk_frozen BK509.out 1; have hfz42_2 := blk_frozen BK509.out 2) | ((with_reducible refine gate_callee (f := 91) rfl ?_); refine goesL_ (some 37) rfl rfl Try.func91 (by kernel_rfl) rfl #[.agg #[.int .i64 a0_0, .int .i64 a0_1, .int .i64 a0_2], .agg #[.int .i64 t516, .int .i64 t517]] rfl (by (try simp only [List.map_toArray, List.map_cons, List.map_nil]); first | done | rfl | (simp only [List.length_drop, List.length_take]; rfl)) ?_; (with_reducible refine (spec_l03Has.calls a0_0 a0_1 a0_2 t516 t517 true _ A24.out).mono ?_); rintro e w43 ⟨rfl, hb⟩; refine ⟨_, rfl, ?_⟩; have n0_ := Aside0.mk (blk_below (g := gb509) (o := .cells #[.int .i64 a0_0, .int .i64 a0_1, .int .i64 a0_2] 31 (0, 0)) (by (with_reducible repeat (first | refine blk_drewN ?_ _ | refine blk_drew ?_ | refine blk_alloc ?_ _)); refine blk_far ?_ NB509_518.out _; (with_reducible repeat (first | refine blk_drewN ?_ _ | refine blk_drew ?_ | refine blk_alloc ?_ _)); refine blk_far ?_ NB509_518.out _; (with_reducible repeat (first | refine blk_drewN ?_ _ | refine blk_drew ?_ | refine blk_alloc ?_ _)); exact BK509.out) hb); have n1_ := Aside0.mk (blk_below (g := gb510) (o := .cells #[.int .i64 a1_0, .int .i64 a1_1, .int .i64 a1_2, .int .i64 a1_3] 33 (0, 0)) (by (with_reducible repeat (first | refine blk_drewN ?_ _ | refine blk_drew ?_ | refine blk_alloc ?_ _)); refine blk_far ?_ NB510_518.out _; (with_reducible repeat (first | refine blk_drewN ?_ _ | refine blk_drew ?_ | refine blk_alloc ?_ _)); refine blk_far ?_ NB510_518.out _; (with_reducible repeat (first | refine blk_drewN ?_ _ | refine blk_drew ?_ | refine blk_alloc ?_ _)); exact BK510.out) hb); have n2_ := Aside0.mk (blk_below (g := gb511) (o := .cells #[.int .i64 x512000_1, .int .i64 x512001_1] 34 (0, 0)) (by (with_reducible repeat (first | refine blk_drewN ?_ _ | refine blk_drew ?_ | refine blk_alloc ?_ _)); refine blk_far ?_ NB511_518.out _; (with_reducible repeat (first | refine blk_drewN ?_ _ | refine blk_drew ?_ | refine blk_alloc ?_ _)); refine blk_far ?_ NB511_518.out _; (with_reducible repeat (first | refine blk_drewN ?_ _ | refine blk_drew ?_ | refine blk_alloc ?_ _)); exact BK511.out) hb); have n3_ := Aside0.mk (blk_below (g := gb512) (o := .cells #[.int .i64 (wrap64 (a2 * a1_0)), .int .i64 (wrap64 (a2 * a1_1)), .int .i64 (wrap64 (a2 * a1_2)), .int .i64 (wrap64 (a2 * a1_3))] 33 (0, 0)) (by (with_reducible repeat (first | refine blk_drewN ?_ _ | refine blk_drew ?_ | refine blk_alloc ?_ _)); refine blk_far ?_ NB512_518.out _; (with_reducible repeat (first | refine blk_drewN ?_ _ | refine blk_drew ?_ | refine blk_alloc ?_ _)); refine blk_far ?_ NB512_518.out _; (with_reducible repeat (first | refine blk_drewN ?_ _ | refine blk_drew ?_ | refine blk_alloc ?_ _)); exact BK512.out) hb); have n4_ := Aside0.mk (blk_below (g := gb515) (o := .cells #[.int .i64 t513, .int .i64 t514] 34 (0, 0)) (by (with_reducible repeat (first | refine blk_drewN ?_ _ | refine blk_drew ?_ | refine blk_alloc ?_ _)); refine blk_far ?_ NB515_518.out _; (with_reducible repeat (first | refine blk_drewN ?_ _ | refine blk_drew ?_ | refine blk_alloc ?_ _)); refine blk_far ?_ NB515_518.out _; (with_reducible repeat (first | refine blk_drewN ?_ _ | refine blk_drew ?_ | refine blk_alloc ?_ _)); exact BK515.out) hb); have n5_ := Aside0.mk (blk_below (g := gb518) (o := .cells #[.int .i64 t516, .int .i64 t517] 34 (0, 0)) (by (with_reducible repeat (first | refine blk_drewN ?_ _ | refine blk_drew ?_ | refine blk_alloc ?_ _)); refine blk_put (cs := #[.int .i64 t516, .int .i64 0]) ?_ 1 _ rfl; (with_reducible repeat (first | refine blk_drewN ?_ _ | refine blk_drew ?_ | refine blk_alloc ?_ _)); refine blk_put (cs := #[.int .i64 0, .int .i64 0]) ?_ 0 _ rfl; (with_reducible repeat (first | refine blk_drewN ?_ _ | refine blk_drew ?_ | refine blk_alloc ?_ _)); exact BK518.out) hb); have n6_ := Aside0.mk (below_step (by repeat (first | (with_reducible first | exact HB.out | apply below_alloc | apply pw_below_drewN | apply below_drew1 | refine below_set ?_ GE509.out | refine below_set ?_ GE510.out | refine below_set ?_ GE511.out | refine below_set ?_ GE512.out | refine below_set ?_ GE515.out | refine below_set ?_ GE518.out) | exact HB.out)) hb); clear BK509; clear BK510; clear BK511; clear BK512; clear BK515; clear BK518; clear HB; have BK509 := n0_; have BK510 := n1_; have BK511 := n2_; have BK512 := n3_; have BK515 := n4_; have BK518 := n5_; have HB := n6_; clear n0_ n1_ n2_ n3_ n4_ n5_ n6_; (try clear hb); (try clear hb2); (try clear hk); (try clear hi); have hcz44_0 : w43.cell? ⟨gb518, 0, none⟩ = some (.int .i64 t516) := bcl BK518 0; have hcz44_1 : w43.cell? ⟨gb518, 1, none⟩ = some (.int .i64 t517) := bcl BK518 1; have hfz44_0 := blk_frozen BK518.out 0; have hfz44_1 := blk_frozen BK518.out 1; have hnb45 := NB511_510.out; have hnc45 := NB510_511.out; have hnb46 := NB511_512.out; have hnc46 := NB512_511.out; have hcz47_0 : w43.cell? ⟨gb511, 0, none⟩ = some (.int .i64 x512000_1) := bcl BK511 0; have hcz47_1 : w43.cell? ⟨gb511, 1, none⟩ = some (.int .i64 x512001_1) := bcl BK511 1; have hfz47_0 := blk_frozen BK511.out 0; have hfz47_1 := blk_frozen BK511.out 1))
    refine bodyPost_ret (results_cell_row rfl _ _ gb511 34 #[.int .i64 t516, .int .i64 t517] (0, 0) _ rfl (by (with_reducible repeat (first | refine blk_drewN ?_ _ | refine blk_drew ?_ | refine blk_alloc ?_ _)); refine blk_put (cs := #[.int .i64 t516, .int .i64 x512001_1]) ?_ 1 _ rfl; (with_reducible repeat (first | refine blk_drewN ?_ _ | refine blk_drew ?_ | refine blk_alloc ?_ _)); refine blk_put (cs := #[.int .i64 x512000_1, .int .i64 x512001_1]) ?_ 0 _ rfl; (with_reducible repeat (first | refine blk_drewN ?_ _ | refine blk_drew ?_ | refine blk_alloc ?_ _)); exact BK511.out) Try.underlying34 rfl (by kernel_rfl)) rfl ?_
    exact ⟨by first | rfl | (simp [errW_none, errW_some] <;> rfl) | (simp [*, errW_none, errW_some] <;> rfl), by repeat (first | (with_reducible first | exact HB.out | apply below_alloc | apply pw_below_drewN | apply below_drew1 | refine below_set ?_ GE509.out | refine below_set ?_ GE510.out | refine below_set ?_ GE511.out | refine below_set ?_ GE512.out | refine below_set ?_ GE515.out | refine below_set ?_ GE518.out) | exact HB.out)⟩
   ·replace c25 := Bool.eq_false_iff.mpr c25
    subst c25
    have H1 : (spec_l11Invariant.l0 k1 (wrap64 (x9_1 + 1)) a0_0 a0_1 a0_2 t513 t514) = some (r1, r2) := by rw [if_neg (show ¬ (false = true) by decide)] at H; first | done | exact H
    clear H
    have H := H1
    clear H1
    have H' := Aside0.mk H
    clear H
    have hnb48 := NB515_509.out
    have hnc48 := NB509_515.out
    have hnb49 := NB515_510.out
    have hnc49 := NB510_515.out
    have hnb50 := NB515_511.out
    have hnc50 := NB511_515.out
    have hnb51 := NB515_512.out
    have hnc51 := NB512_515.out
    have hcz52_0 : wr.cell? ⟨gb515, 0, none⟩ = some (.int .i64 t513) := bcl BK515 0
    have hcz52_1 : wr.cell? ⟨gb515, 1, none⟩ = some (.int .i64 t514) := bcl BK515 1
    have hfz52_0 := blk_frozen BK515.out 0
    have hfz52_1 := blk_frozen BK515.out 1
    go_wp2_with (first | ((with_reducible refine gate_callee (f := 90) rfl ?_); refine goesL_ (some 34) rfl rfl Try.func90 (by kernel_rfl) rfl #[.agg #[.int .i64 t513, .int .i64 t514], .int .i64 x9_1] rfl (by (try simp only [List.map_toArray, List.map_cons, List.map_nil]); first | done | rfl | (simp only [List.length_drop, List.length_take]; rfl)) ?_; (with_reducible refine (spec_l01Scale.calls t513 t514 x9_1 t516 t517 _ A23.out).mono ?_); rintro e w53 ⟨rfl, hb⟩; refine ⟨_, rfl, ?_⟩; have n0_ := Aside0.mk (bbl BK509 hb); have n1_ := Aside0.mk (bbl BK510 hb); have n2_ := Aside0.mk (bbl BK511 hb); have n3_ := Aside0.mk (bbl BK512 hb); have n4_ := Aside0.mk (bbl BK515 hb); have n5_ := Aside0.mk (below_step (by repeat (first | (with_reducible first | exact HB.out | apply below_alloc | apply pw_below_drewN | apply below_drew1 | refine below_set ?_ GE509.out | refine below_set ?_ GE510.out | refine below_set ?_ GE511.out | refine below_set ?_ GE512.out | refine below_set ?_ GE515.out) | exact HB.out)) hb); clear BK509; clear BK510; clear BK511; clear BK512; clear BK515; clear HB; have BK509 := n0_; have BK510 := n1_; have BK511 := n2_; have BK512 := n3_; have BK515 := n4_; have HB := n5_; clear n0_ n1_ n2_ n3_ n4_ n5_; (try clear hb); (try clear hb2); (try clear hk); (try clear hi)) | ((with_reducible refine gate_dst (N := 10) rfl ?_); refine box_event ?hg (N := 10) ?hd (cs := #[.int .i64 0, .int .i64 0]) (t := 34) ?hr ?_; (case hd => rfl); (case hg => rfl); (case hr => first | (go_simp; done) | (go_simp; rfl)); intro gb518 hg w54 hbox hb; have n0_ := Aside0.mk (bbl BK509 hb); have n1_ := Aside0.mk (bbl BK510 hb); have n2_ := Aside0.mk (bbl BK511 hb); have n3_ := Aside0.mk (bbl BK512 hb); have n4_ := Aside0.mk (bbl BK515 hb); have n5_ := Aside0.mk (below_step (by repeat (first | (with_reducible first | exact HB.out | apply below_alloc | apply pw_below_drewN | apply below_drew1 | refine below_set ?_ GE509.out | refine below_set ?_ GE510.out | refine below_set ?_ GE511.out | refine below_set ?_ GE512.out | refine below_set ?_ GE515.out) | exact HB.out)) hb); have n6_ := Aside0.mk (hbox); have n7_ := Aside0.mk ((by rw [hg]; exact (below_size (by repeat (first | (with_reducible first | exact HB.out | apply below_alloc | apply pw_below_drewN | apply below_drew1 | refine below_set ?_ GE509.out | refine below_set ?_ GE510.out | refine below_set ?_ GE511.out | refine below_set ?_ GE512.out | refine below_set ?_ GE515.out) | exact HB.out))) : w.heap.size ≤ gb518)); have n8_ := Aside0.mk ((by rw [hg]; exact (below_size (by repeat (first | (with_reducible first | exact HB.out | apply below_alloc | apply pw_below_drewN | apply below_drew1 | refine below_set ?_ GE509.out | refine below_set ?_ GE510.out | refine below_set ?_ GE511.out | refine below_set ?_ GE512.out | refine below_set ?_ GE515.out) | exact HB.out))) : w.heap.size ≤ gb518)); have n9_ := nlt hg BK509; have n10_ := nsy (nlt hg BK509); have n11_ := nlt hg BK510; have n12_ := nsy (nlt hg BK510); have n13_ := nlt hg BK511; have n14_ := nsy (nlt hg BK511); have n15_ := nlt hg BK512; have n16_ := nsy (nlt hg BK512); have n17_ := nlt hg BK515; have n18_ := nsy (nlt hg BK515); clear BK509; clear BK510; clear BK511; clear BK512; clear BK515; clear HB; have BK509 := n0_; have BK510 := n1_; have BK511 := n2_; have BK512 := n3_; have BK515 := n4_; have HB := n5_; have BK518 := n6_; have GW518 := n7_; have GE518 := n8_; have NB509_518 := n9_; have NB518_509 := n10_; have NB510_518 := n11_; have NB518_510 := n12_; have NB511_518 := n13_; have NB518_511 := n14_; have NB512_518 := n15_; have NB518_512 := n16_; have NB515_518 := n17_; have NB518_515 := n18_; clear n0_ n1_ n2_ n3_ n4_ n5_ n6_ n7_ n8_ n9_ n10_ n11_ n12_ n13_ n14_ n15_ n16_ n17_ n18_; clear hb hbox hg; have hnb55 := NB518_509.out; have hnc55 := NB509_518.out; have hnb56 := NB518_510.out; have hnc56 := NB510_518.out; have hnb57 := NB518_511.out; have hnc57 := NB511_518.out; have hnb58 := NB518_512.out; have hnc58 := NB512_518.out; have hnb59 := NB518_515.out; have hnc59 := NB515_518.out; have hcz60_0 : w54.cell? ⟨gb518, 0, none⟩ = some (.int .i64 0) := bcl BK518 0; have hcz60_1 : w54.cell? ⟨gb518, 1, none⟩ = some (.int .i64 0) := bcl BK518 1; have hfz60_0 := blk_frozen BK518.out 0; have hfz60_1 := blk_frozen BK518.out 1; have hnb61 := NB509_510.out; have hnc61 := NB510_509.out; have hnb62 := NB509_511.out; have hnc62 := NB511_509.out; have hnb63 := NB509_512.out; have hnc63 := NB512_509.out; have hcz64_0 : w54.cell? ⟨gb509, 0, none⟩ = some (.int .i64 a0_0) := bcl BK509 0; have hcz64_1 : w54.cell? ⟨gb509, 1, none⟩ = some (.int .i64 a0_1) := bcl BK509 1; have hcz64_2 : w54.cell? ⟨gb509, 2, none⟩ = some (.int .i64 a0_2) := bcl BK509 2; have hfz64_0 := blk_frozen BK509.out 0; have hfz64_1 := blk_frozen BK509.out 1; have hfz64_2 := blk_frozen BK509.out 2) | ((with_reducible refine gate_callee (f := 91) rfl ?_); refine goesL_ (some 37) rfl rfl Try.func91 (by kernel_rfl) rfl #[.agg #[.int .i64 a0_0, .int .i64 a0_1, .int .i64 a0_2], .agg #[.int .i64 t516, .int .i64 t517]] rfl (by (try simp only [List.map_toArray, List.map_cons, List.map_nil]); first | done | rfl | (simp only [List.length_drop, List.length_take]; rfl)) ?_; (with_reducible refine (spec_l03Has.calls a0_0 a0_1 a0_2 t516 t517 false _ A24.out).mono ?_); rintro e w65 ⟨rfl, hb⟩; refine ⟨_, rfl, ?_⟩; have n0_ := Aside0.mk (blk_below (g := gb509) (o := .cells #[.int .i64 a0_0, .int .i64 a0_1, .int .i64 a0_2] 31 (0, 0)) (by (with_reducible repeat (first | refine blk_drewN ?_ _ | refine blk_drew ?_ | refine blk_alloc ?_ _)); refine blk_far ?_ NB509_518.out _; (with_reducible repeat (first | refine blk_drewN ?_ _ | refine blk_drew ?_ | refine blk_alloc ?_ _)); refine blk_far ?_ NB509_518.out _; (with_reducible repeat (first | refine blk_drewN ?_ _ | refine blk_drew ?_ | refine blk_alloc ?_ _)); exact BK509.out) hb); have n1_ := Aside0.mk (blk_below (g := gb510) (o := .cells #[.int .i64 a1_0, .int .i64 a1_1, .int .i64 a1_2, .int .i64 a1_3] 33 (0, 0)) (by (with_reducible repeat (first | refine blk_drewN ?_ _ | refine blk_drew ?_ | refine blk_alloc ?_ _)); refine blk_far ?_ NB510_518.out _; (with_reducible repeat (first | refine blk_drewN ?_ _ | refine blk_drew ?_ | refine blk_alloc ?_ _)); refine blk_far ?_ NB510_518.out _; (with_reducible repeat (first | refine blk_drewN ?_ _ | refine blk_drew ?_ | refine blk_alloc ?_ _)); exact BK510.out) hb); have n2_ := Aside0.mk (blk_below (g := gb511) (o := .cells #[.int .i64 x512000_1, .int .i64 x512001_1] 34 (0, 0)) (by (with_reducible repeat (first | refine blk_drewN ?_ _ | refine blk_drew ?_ | refine blk_alloc ?_ _)); refine blk_far ?_ NB511_518.out _; (with_reducible repeat (first | refine blk_drewN ?_ _ | refine blk_drew ?_ | refine blk_alloc ?_ _)); refine blk_far ?_ NB511_518.out _; (with_reducible repeat (first | refine blk_drewN ?_ _ | refine blk_drew ?_ | refine blk_alloc ?_ _)); exact BK511.out) hb); have n3_ := Aside0.mk (blk_below (g := gb512) (o := .cells #[.int .i64 (wrap64 (a2 * a1_0)), .int .i64 (wrap64 (a2 * a1_1)), .int .i64 (wrap64 (a2 * a1_2)), .int .i64 (wrap64 (a2 * a1_3))] 33 (0, 0)) (by (with_reducible repeat (first | refine blk_drewN ?_ _ | refine blk_drew ?_ | refine blk_alloc ?_ _)); refine blk_far ?_ NB512_518.out _; (with_reducible repeat (first | refine blk_drewN ?_ _ | refine blk_drew ?_ | refine blk_alloc ?_ _)); refine blk_far ?_ NB512_518.out _; (with_reducible repeat (first | refine blk_drewN ?_ _ | refine blk_drew ?_ | refine blk_alloc ?_ _)); exact BK512.out) hb); have n4_ := Aside0.mk (blk_below (g := gb515) (o := .cells #[.int .i64 t513, .int .i64 t514] 34 (0, 0)) (by (with_reducible repeat (first | refine blk_drewN ?_ _ | refine blk_drew ?_ | refine blk_alloc ?_ _)); refine blk_far ?_ NB515_518.out _; (with_reducible repeat (first | refine blk_drewN ?_ _ | refine blk_drew ?_ | refine blk_alloc ?_ _)); refine blk_far ?_ NB515_518.out _; (with_reducible repeat (first | refine blk_drewN ?_ _ | refine blk_drew ?_ | refine blk_alloc ?_ _)); exact BK515.out) hb); have n5_ := Aside0.mk (blk_below (g := gb518) (o := .cells #[.int .i64 t516, .int .i64 t517] 34 (0, 0)) (by (with_reducible repeat (first | refine blk_drewN ?_ _ | refine blk_drew ?_ | refine blk_alloc ?_ _)); refine blk_put (cs := #[.int .i64 t516, .int .i64 0]) ?_ 1 _ rfl; (with_reducible repeat (first | refine blk_drewN ?_ _ | refine blk_drew ?_ | refine blk_alloc ?_ _)); refine blk_put (cs := #[.int .i64 0, .int .i64 0]) ?_ 0 _ rfl; (with_reducible repeat (first | refine blk_drewN ?_ _ | refine blk_drew ?_ | refine blk_alloc ?_ _)); exact BK518.out) hb); have n6_ := Aside0.mk (below_step (by repeat (first | (with_reducible first | exact HB.out | apply below_alloc | apply pw_below_drewN | apply below_drew1 | refine below_set ?_ GE509.out | refine below_set ?_ GE510.out | refine below_set ?_ GE511.out | refine below_set ?_ GE512.out | refine below_set ?_ GE515.out | refine below_set ?_ GE518.out) | exact HB.out)) hb); clear BK509; clear BK510; clear BK511; clear BK512; clear BK515; clear BK518; clear HB; have BK509 := n0_; have BK510 := n1_; have BK511 := n2_; have BK512 := n3_; have BK515 := n4_; have BK518 := n5_; have HB := n6_; clear n0_ n1_ n2_ n3_ n4_ n5_ n6_; (try clear hb); (try clear hb2); (try clear hk); (try clear hi)))
    go_roundg k1
    case measure => have := HK1.out; omega
    case rel => exact ⟨(wrap64 (x9_1 + 1)), (x512000_1), (x512001_1), (by first | rfl | (simp; done) | (simp [*]; done)), H', ⟨by have := HK1.out; omega⟩, ⟨bkp BK509⟩, ⟨bkp BK510⟩, ⟨bkp BK511⟩, ⟨bkp BK512⟩, ⟨bkp BK515⟩, ⟨by repeat (first | (with_reducible first | exact HB.out | apply below_alloc | apply pw_below_drewN | apply below_drew1 | refine below_set ?_ GE509.out | refine below_set ?_ GE510.out | refine below_set ?_ GE511.out | refine below_set ?_ GE512.out | refine below_set ?_ GE515.out | refine below_set ?_ GE518.out) | exact HB.out)⟩⟩

/-! ### impl_Mat_det: function 127 -/
def impl_Mat_det.f (a0_0 : Int) (a0_1 : Int) (a0_2 : Int) (a0_3 : Int) : Option (Int) := some (wrap64 ((wrap64 (a0_0 * a0_3)) - (wrap64 (a0_1 * a0_2))))
set_option maxHeartbeats 8000000 in
set_option maxRecDepth 100000 in
theorem impl_Mat_det.calls (a0_0 : Int) (a0_1 : Int) (a0_2 : Int) (a0_3 : Int) (r : Int) (w : World) (h : impl_Mat_det.f a0_0 a0_1 a0_2 a0_3 = some r) :
  Calls Try.prog 127 #[.agg #[.int .i64 a0_0, .int .i64 a0_1, .int .i64 a0_2, .int .i64 a0_3]] w fun e w' => e = .returned (.int .i64 r) ∧ Below w.heap.size w w' := by
 have hu33 := Try.underlying33
 have HB := Aside0.mk (Below.refl w.heap.size w)
 have H : (some (wrap64 ((wrap64 (a0_0 * a0_3)) - (wrap64 (a0_1 * a0_2))))) = some r := h
 clear h
 obtain rfl := Option.some.inj H
 go_enter Try.func127, Try.ntmps127
 go_wp2_with (first | ((with_reducible refine gate_dst (N := 1) rfl ?_); refine box_event ?hg (N := 1) ?hd (cs := #[.int .i64 a0_0, .int .i64 a0_1, .int .i64 a0_2, .int .i64 a0_3]) (t := 33) ?hr ?_; (case hd => rfl); (case hg => rfl); (case hr => first | (go_simp; done) | (go_simp; rfl)); intro gb527 hg w2 hbox hb; have n0_ := Aside0.mk (bst0 HB hb); have n1_ := Aside0.mk (hbox); have n2_ := ngw0 hg HB; have n3_ := n2_; clear HB; have HB := n0_; have BK527 := n1_; have GW527 := n2_; have GE527 := n3_; clear n0_ n1_ n2_ n3_; clear hb hbox hg; have hcz3_0 : w2.cell? ⟨gb527, 0, none⟩ = some (.int .i64 a0_0) := bcl BK527 0; have hcz3_1 : w2.cell? ⟨gb527, 1, none⟩ = some (.int .i64 a0_1) := bcl BK527 1; have hcz3_2 : w2.cell? ⟨gb527, 2, none⟩ = some (.int .i64 a0_2) := bcl BK527 2; have hcz3_3 : w2.cell? ⟨gb527, 3, none⟩ = some (.int .i64 a0_3) := bcl BK527 3; have hfz3_0 := blk_frozen BK527.out 0; have hfz3_1 := blk_frozen BK527.out 1; have hfz3_2 := blk_frozen BK527.out 2; have hfz3_3 := blk_frozen BK527.out 3))
 go_ret
 exact ⟨by first | rfl | (simp [errW_none, errW_some] <;> rfl) | (simp [*, errW_none, errW_some] <;> rfl), bbw1 HB GE527⟩

/-! ### impl_unit: function 113 -/
def impl_unit.f  : Option (Int × Int × Int × Int) := some (1, 0, 0, 1)
set_option maxHeartbeats 8000000 in
set_option maxRecDepth 100000 in
theorem impl_unit.calls  (r1 : Int) (r2 : Int) (r3 : Int) (r4 : Int) (w : World) (h : impl_unit.f  = some (r1, r2, r3, r4)) :
  Calls Try.prog 113 #[] w fun e w' => e = .returned (.agg #[.int .i64 r1, .int .i64 r2, .int .i64 r3, .int .i64 r4]) ∧ Below w.heap.size w w' := by
 have hu33 := Try.underlying33
 have HB := Aside0.mk (Below.refl w.heap.size w)
 have H : (some (1, 0, 0, 1)) = some (r1, r2, r3, r4) := h
 clear h
 simp only [Option.some.injEq, Prod.mk.injEq] at H
 obtain ⟨rfl, rfl, rfl, rfl⟩ := H
 go_enter Try.func113, Try.ntmps113
 go_wp2_with (first | ((with_reducible refine gate_dst (N := 0) rfl ?_); refine box_event ?hg (N := 0) ?hd (cs := #[.int .i64 0, .int .i64 0, .int .i64 0, .int .i64 0]) (t := 33) ?hr ?_; (case hd => rfl); (case hg => rfl); (case hr => first | (go_simp; done) | (go_simp; rfl)); intro gb528 hg w1 hbox hb; have n0_ := Aside0.mk (bst0 HB hb); have n1_ := Aside0.mk (hbox); have n2_ := ngw0 hg HB; have n3_ := n2_; clear HB; have HB := n0_; have BK528 := n1_; have GW528 := n2_; have GE528 := n3_; clear n0_ n1_ n2_ n3_; clear hb hbox hg; have hcz2_0 : w1.cell? ⟨gb528, 0, none⟩ = some (.int .i64 0) := bcl BK528 0; have hcz2_1 : w1.cell? ⟨gb528, 1, none⟩ = some (.int .i64 0) := bcl BK528 1; have hcz2_2 : w1.cell? ⟨gb528, 2, none⟩ = some (.int .i64 0) := bcl BK528 2; have hcz2_3 : w1.cell? ⟨gb528, 3, none⟩ = some (.int .i64 0) := bcl BK528 3; have hfz2_0 := blk_frozen BK528.out 0; have hfz2_1 := blk_frozen BK528.out 1; have hfz2_2 := blk_frozen BK528.out 2; have hfz2_3 := blk_frozen BK528.out 3))
 refine bodyPost_ret (results_cell_row rfl _ _ gb528 33 #[.int .i64 1, .int .i64 0, .int .i64 0, .int .i64 1] (0, 0) _ rfl (by (with_reducible repeat (first | refine blk_drewN ?_ _ | refine blk_drew ?_ | refine blk_alloc ?_ _)); refine blk_put (cs := #[.int .i64 1, .int .i64 0, .int .i64 0, .int .i64 0]) ?_ 3 _ rfl; (with_reducible repeat (first | refine blk_drewN ?_ _ | refine blk_drew ?_ | refine blk_alloc ?_ _)); refine blk_put (cs := #[.int .i64 1, .int .i64 0, .int .i64 0, .int .i64 0]) ?_ 2 _ rfl; (with_reducible repeat (first | refine blk_drewN ?_ _ | refine blk_drew ?_ | refine blk_alloc ?_ _)); refine blk_put (cs := #[.int .i64 1, .int .i64 0, .int .i64 0, .int .i64 0]) ?_ 1 _ rfl; (with_reducible repeat (first | refine blk_drewN ?_ _ | refine blk_drew ?_ | refine blk_alloc ?_ _)); refine blk_put (cs := #[.int .i64 0, .int .i64 0, .int .i64 0, .int .i64 0]) ?_ 0 _ rfl; (with_reducible repeat (first | refine blk_drewN ?_ _ | refine blk_drew ?_ | refine blk_alloc ?_ _)); exact BK528.out) Try.underlying33 rfl (by kernel_rfl)) rfl ?_
 exact ⟨by first | rfl | (simp [errW_none, errW_some] <;> rfl) | (simp [*, errW_none, errW_some] <;> rfl), bbw1 HB GE528⟩

attribute [local go_sem high] eqA33
/-! ### impl_Mat_order: function 128 -/
mutual
def impl_Mat_order.j0 : Nat → Int → Bool → Int → Int → Int → Int → Option (Int)
 | 0, _, _, _, _, _, _ => none
 | k + 1, x3, x13, x530000, x530001, x530002, x530003 => if x13 = true then (impl_Mat_order.j1 k x3 x13 x530000 x530001 x530002 x530003) else (impl_Mat_order.j1 k x3 (x530000 == (-1) && (x530001 == 0 && (x530002 == 0 && (x530003 == (-1))))) x530000 x530001 x530002 x530003)
def impl_Mat_order.j1 : Nat → Int → Bool → Int → Int → Int → Int → Option (Int)
 | 0, _, _, _, _, _, _ => none
 | k + 1, x3, x13, x530000, x530001, x530002, x530003 => if x13 = true then (some 2) else ((impl_Mat_det.f x530000 x530001 x530002 x530003).bind fun t535 => (if t535 = 1 then (impl_Mat_order.j2 k x3 (x3 == (-1)) x530000 x530001 x530002 x530003) else (impl_Mat_order.j2 k x3 false x530000 x530001 x530002 x530003)))
def impl_Mat_order.j2 : Nat → Int → Bool → Int → Int → Int → Int → Option (Int)
 | 0, _, _, _, _, _, _ => none
 | k + 1, x3, x24, x530000, x530001, x530002, x530003 => if x24 = true then (some 3) else ((impl_Mat_det.f x530000 x530001 x530002 x530003).bind fun t536 => (if t536 = 1 then (impl_Mat_order.j3 k x3 (x3 == 0) x530000 x530001 x530002 x530003) else (impl_Mat_order.j3 k x3 false x530000 x530001 x530002 x530003)))
def impl_Mat_order.j3 : Nat → Int → Bool → Int → Int → Int → Int → Option (Int)
 | 0, _, _, _, _, _, _ => none
 | k + 1, x3, x32, x530000, x530001, x530002, x530003 => if x32 = true then (some 4) else ((impl_Mat_det.f x530000 x530001 x530002 x530003).bind fun t537 => (if t537 = 1 then (if x3 = 1 then (some 6) else (some 0)) else (some 0)))
end
def impl_Mat_order.f (k : Nat) (a0_0 : Int) (a0_1 : Int) (a0_2 : Int) (a0_3 : Int) : Option (Int) := (impl_unit.f).bind fun bt530 => (if (a0_0 == bt530.1 && (a0_1 == bt530.2.1 && (a0_2 == bt530.2.2.1 && (a0_3 == bt530.2.2.2)))) = true then (some 1) else ((impl_Mat_det.f a0_0 a0_1 a0_2 a0_3).bind fun t534 => (if t534 = (-1) then (impl_Mat_order.j0 k (wrap64 (a0_0 + a0_3)) ((wrap64 (a0_0 + a0_3)) == 0) a0_0 a0_1 a0_2 a0_3) else (impl_Mat_order.j0 k (wrap64 (a0_0 + a0_3)) false a0_0 a0_1 a0_2 a0_3))))
set_option maxHeartbeats 8000000 in
set_option maxRecDepth 100000 in
theorem impl_Mat_order.calls (k : Nat) (a0_0 : Int) (a0_1 : Int) (a0_2 : Int) (a0_3 : Int) (r : Int) (w : World) (h : impl_Mat_order.f k a0_0 a0_1 a0_2 a0_3 = some r) :
  Calls Try.prog 128 #[.agg #[.int .i64 a0_0, .int .i64 a0_1, .int .i64 a0_2, .int .i64 a0_3]] w fun e w' => e = .returned (.int .i64 r) ∧ Below w.heap.size w w' := by
 have hu33 := Try.underlying33
 have HB := Aside0.mk (Below.refl w.heap.size w)
 have H : ((impl_unit.f).bind fun bt530 => (if (a0_0 == bt530.1 && (a0_1 == bt530.2.1 && (a0_2 == bt530.2.2.1 && (a0_3 == bt530.2.2.2)))) = true then (some 1) else ((impl_Mat_det.f a0_0 a0_1 a0_2 a0_3).bind fun t534 => (if t534 = (-1) then (impl_Mat_order.j0 k (wrap64 (a0_0 + a0_3)) ((wrap64 (a0_0 + a0_3)) == 0) a0_0 a0_1 a0_2 a0_3) else (impl_Mat_order.j0 k (wrap64 (a0_0 + a0_3)) false a0_0 a0_1 a0_2 a0_3))))) = some r := h
 clear h
 replace H := Option.bind_eq_some_iff.mp H
 obtain ⟨⟨t530, t531, t532, t533⟩, A20, H⟩ := H
 replace H : (if (a0_0 == t530 && (a0_1 == t531 && (a0_2 == t532 && (a0_3 == t533)))) = true then (some 1) else ((impl_Mat_det.f a0_0 a0_1 a0_2 a0_3).bind fun t534 => (if t534 = (-1) then (impl_Mat_order.j0 k (wrap64 (a0_0 + a0_3)) ((wrap64 (a0_0 + a0_3)) == 0) a0_0 a0_1 a0_2 a0_3) else (impl_Mat_order.j0 k (wrap64 (a0_0 + a0_3)) false a0_0 a0_1 a0_2 a0_3)))) = some r := H
 have A2 := Aside0.mk A20
 clear A20
 by_cases c3 : (a0_0 == t530 && (a0_1 == t531 && (a0_2 == t532 && (a0_3 == t533)))) = true
 ·rw [if_pos c3] at H
  have c3b0 : (a0_0 == t530 && (a0_1 == t531 && (a0_2 == t532 && (a0_3 == t533)))) = true := c3
  (try (have c3b1 : decide (a0_0 = t530 && (a0_1 == t531 && (a0_2 == t532 && (a0_3 == t533)))) = true := by simpa using c3))
  (try (have c3b2 : (a0_0 == t530 && (a0_1 == t531 && (a0_2 == t532 && (a0_3 == t533)))) = true := by simpa using c3))
  clear c3
  obtain rfl := Option.some.inj H
  go_enter Try.func128, Try.ntmps128
  try go_wp2_with (first | ((with_reducible refine gate_dst (N := 1) rfl ?_); refine box_event ?hg (N := 1) ?hd (cs := #[.int .i64 a0_0, .int .i64 a0_1, .int .i64 a0_2, .int .i64 a0_3]) (t := 33) ?hr ?_; (case hd => rfl); (case hg => rfl); (case hr => first | (go_simp; done) | (go_simp; rfl)); intro gb529 hg w4 hbox hb; have n0_ := Aside0.mk (bst0 HB hb); have n1_ := Aside0.mk (hbox); have n2_ := ngw0 hg HB; have n3_ := n2_; clear HB; have HB := n0_; have BK529 := n1_; have GW529 := n2_; have GE529 := n3_; clear n0_ n1_ n2_ n3_; clear hb hbox hg; have hcz5_0 : w4.cell? ⟨gb529, 0, none⟩ = some (.int .i64 a0_0) := bcl BK529 0; have hcz5_1 : w4.cell? ⟨gb529, 1, none⟩ = some (.int .i64 a0_1) := bcl BK529 1; have hcz5_2 : w4.cell? ⟨gb529, 2, none⟩ = some (.int .i64 a0_2) := bcl BK529 2; have hcz5_3 : w4.cell? ⟨gb529, 3, none⟩ = some (.int .i64 a0_3) := bcl BK529 3; have hfz5_0 := blk_frozen BK529.out 0; have hfz5_1 := blk_frozen BK529.out 1; have hfz5_2 := blk_frozen BK529.out 2; have hfz5_3 := blk_frozen BK529.out 3))
  have n0_ := Aside0.mk (blk_drew BK529.out)
  have n1_ := Aside0.mk (below_drew1 HB.out)
  clear BK529
  clear HB
  have BK529 := n0_
  have HB := n1_
  clear n0_ n1_
  refine start_ (n := 4) (S := fun w' => w'.cell? ⟨gb529, 0, none⟩ = some (.int .i64 a0_0) ∧ w'.cell? ⟨gb529, 1, none⟩ = some (.int .i64 a0_1) ∧ w'.cell? ⟨gb529, 2, none⟩ = some (.int .i64 a0_2) ∧ w'.cell? ⟨gb529, 3, none⟩ = some (.int .i64 a0_3)) (ds := []) #[false, false, false, false] (by kernel_rfl) rfl rfl ⟨bcl BK529 0, bcl BK529 1, bcl BK529 2, bcl BK529 3⟩ (fun hHeld => ?_)
  generalize w4.drew = w6 at BK529 HB hHeld ⊢
  refine take_ (i := 0) (N := some 10) (v := ?_) (a' := ?_) #[true, false, false, false] rfl rfl (by kernel_rfl) (fun _ _ _ h => h) (Or.inl ⟨by rfl, ?_⟩) hHeld ?_ ?_
  rotate_left
  ·rintro w' ⟨s0, s1, s2, s3⟩
   go_simp
   with_reducible rfl
  rotate_left
  ·simp only [Act.put, sA, sB, sC, i64_w, i32_w]
   rfl
  refine one_ (i := 1) (N := some 11) #[true, true, false, false] rfl rfl (by kernel_rfl) (by decide) (fun K hK => ?_)
  refine goes_ Try.func113 (by kernel_rfl) rfl #[] (by rfl) rfl rfl (by (try simp only [List.map_toArray, List.map_cons, List.map_nil]); first | done | rfl | (simp only [List.length_drop, List.length_take]; rfl)) ?_
  with_reducible refine (impl_unit.calls  t530 t531 t532 t533 _ A2.out).mono ?_
  rintro e w7 ⟨rfl, hb⟩
  refine ⟨_, rfl, ?_⟩
  have n0_ := Aside0.mk (bbl BK529 hb)
  have n1_ := Aside0.mk (bst1 HB GE529 hb)
  clear BK529
  clear HB
  have BK529 := n0_
  have HB := n1_
  clear n0_ n1_
  (try clear hb)
  (try clear hb2)
  (try clear hk)
  (try clear hi)
  refine hK.out _ _ ⟨bcl BK529 0, bcl BK529 1, bcl BK529 2, bcl BK529 3⟩ (fun hHeld => ?_)
  clear hK K
  refine norm_ (a' := ?_) ?_ ?_
  rotate_left
  ·show Act.put _ (some 11) _ = _
   simp only [Act.put, sA, sB, sC, i64_w, i32_w]
   rfl
  refine pure_ (i := 2) (N := some 12) (v := ?_) (a' := ?_) #[true, true, true, false] rfl rfl (by kernel_rfl) (fun _ _ _ h => h) (Or.inl ⟨by rfl, ?_⟩) ?_ ?_
  rotate_left
  ·intro w'
   go_simp
   with_reducible rfl
  rotate_left
  ·simp only [Act.put, sA, sB, sC, i64_w, i32_w]
   rfl
  refine pure_ (i := 3) (N := some 9) (v := ?_) (a' := ?_) #[true, true, true, true] rfl rfl (by kernel_rfl) (fun _ _ _ h => h) (Or.inl ⟨by rfl, ?_⟩) ?_ ?_
  rotate_left
  ·intro w'
   go_simp
   with_reducible rfl
  rotate_left
  ·simp only [Act.put, sA, sB, sC, i64_w, i32_w]
   rfl
  refine done_ (by kernel_rfl) ?_
  try go_wp2
  go_ret
  exact ⟨by first | rfl | (simp [errW_none, errW_some] <;> rfl) | (simp [*, errW_none, errW_some] <;> rfl), bbw1 HB GE529⟩
 ·rw [if_neg c3] at H
  have c3b0 : (a0_0 == t530 && (a0_1 == t531 && (a0_2 == t532 && (a0_3 == t533)))) = false := by simpa using c3
  (try (have c3b1 : decide (a0_0 = t530 && (a0_1 == t531 && (a0_2 == t532 && (a0_3 == t533)))) = false := by simpa using c3))
  (try (have c3b2 : (a0_0 == t530 && (a0_1 == t531 && (a0_2 == t532 && (a0_3 == t533)))) = false := by simpa using c3))
  (try (have c3b3 : ¬ (a0_0 = t530 && (a0_1 == t531 && (a0_2 == t532 && (a0_3 == t533)))) := by simpa using c3))
  clear c3
  have HC8 := Aside0.mk H
  clear H
  go_enter Try.func128, Try.ntmps128
  try go_wp2_with (first | ((with_reducible refine gate_dst (N := 1) rfl ?_); refine box_event ?hg (N := 1) ?hd (cs := #[.int .i64 a0_0, .int .i64 a0_1, .int .i64 a0_2, .int .i64 a0_3]) (t := 33) ?hr ?_; (case hd => rfl); (case hg => rfl); (case hr => first | (go_simp; done) | (go_simp; rfl)); intro gb529 hg w9 hbox hb; have n0_ := Aside0.mk (bst0 HB hb); have n1_ := Aside0.mk (hbox); have n2_ := ngw0 hg HB; have n3_ := n2_; clear HB; have HB := n0_; have BK529 := n1_; have GW529 := n2_; have GE529 := n3_; clear n0_ n1_ n2_ n3_; clear hb hbox hg; have hcz10_0 : w9.cell? ⟨gb529, 0, none⟩ = some (.int .i64 a0_0) := bcl BK529 0; have hcz10_1 : w9.cell? ⟨gb529, 1, none⟩ = some (.int .i64 a0_1) := bcl BK529 1; have hcz10_2 : w9.cell? ⟨gb529, 2, none⟩ = some (.int .i64 a0_2) := bcl BK529 2; have hcz10_3 : w9.cell? ⟨gb529, 3, none⟩ = some (.int .i64 a0_3) := bcl BK529 3; have hfz10_0 := blk_frozen BK529.out 0; have hfz10_1 := blk_frozen BK529.out 1; have hfz10_2 := blk_frozen BK529.out 2; have hfz10_3 := blk_frozen BK529.out 3))
  have n0_ := Aside0.mk (blk_drew BK529.out)
  have n1_ := Aside0.mk (below_drew1 HB.out)
  clear BK529
  clear HB
  have BK529 := n0_
  have HB := n1_
  clear n0_ n1_
  refine start_ (n := 4) (S := fun w' => w'.cell? ⟨gb529, 0, none⟩ = some (.int .i64 a0_0) ∧ w'.cell? ⟨gb529, 1, none⟩ = some (.int .i64 a0_1) ∧ w'.cell? ⟨gb529, 2, none⟩ = some (.int .i64 a0_2) ∧ w'.cell? ⟨gb529, 3, none⟩ = some (.int .i64 a0_3)) (ds := []) #[false, false, false, false] (by kernel_rfl) rfl rfl ⟨bcl BK529 0, bcl BK529 1, bcl BK529 2, bcl BK529 3⟩ (fun hHeld => ?_)
  generalize w9.drew = w11 at BK529 HB hHeld ⊢
  refine take_ (i := 0) (N := some 10) (v := ?_) (a' := ?_) #[true, false, false, false] rfl rfl (by kernel_rfl) (fun _ _ _ h => h) (Or.inl ⟨by rfl, ?_⟩) hHeld ?_ ?_
  rotate_left
  ·rintro w' ⟨s0, s1, s2, s3⟩
   go_simp
   with_reducible rfl
  rotate_left
  ·simp only [Act.put, sA, sB, sC, i64_w, i32_w]
   rfl
  refine one_ (i := 1) (N := some 11) #[true, true, false, false] rfl rfl (by kernel_rfl) (by decide) (fun K hK => ?_)
  refine goes_ Try.func113 (by kernel_rfl) rfl #[] (by rfl) rfl rfl (by (try simp only [List.map_toArray, List.map_cons, List.map_nil]); first | done | rfl | (simp only [List.length_drop, List.length_take]; rfl)) ?_
  with_reducible refine (impl_unit.calls  t530 t531 t532 t533 _ A2.out).mono ?_
  rintro e w12 ⟨rfl, hb⟩
  refine ⟨_, rfl, ?_⟩
  have n0_ := Aside0.mk (bbl BK529 hb)
  have n1_ := Aside0.mk (bst1 HB GE529 hb)
  clear BK529
  clear HB
  have BK529 := n0_
  have HB := n1_
  clear n0_ n1_
  (try clear hb)
  (try clear hb2)
  (try clear hk)
  (try clear hi)
  refine hK.out _ _ ⟨bcl BK529 0, bcl BK529 1, bcl BK529 2, bcl BK529 3⟩ (fun hHeld => ?_)
  clear hK K
  refine norm_ (a' := ?_) ?_ ?_
  rotate_left
  ·show Act.put _ (some 11) _ = _
   simp only [Act.put, sA, sB, sC, i64_w, i32_w]
   rfl
  refine pure_ (i := 2) (N := some 12) (v := ?_) (a' := ?_) #[true, true, true, false] rfl rfl (by kernel_rfl) (fun _ _ _ h => h) (Or.inl ⟨by rfl, ?_⟩) ?_ ?_
  rotate_left
  ·intro w'
   go_simp
   with_reducible rfl
  rotate_left
  ·simp only [Act.put, sA, sB, sC, i64_w, i32_w]
   rfl
  refine pure_ (i := 3) (N := some 9) (v := ?_) (a' := ?_) #[true, true, true, true] rfl rfl (by kernel_rfl) (fun _ _ _ h => h) (Or.inl ⟨by rfl, ?_⟩) ?_ ?_
  rotate_left
  ·intro w'
   go_simp
   with_reducible rfl
  rotate_left
  ·simp only [Act.put, sA, sB, sC, i64_w, i32_w]
   rfl
  refine done_ (by kernel_rfl) ?_
  go_upto_region 4 with (fail)
  go_cut [13] (fun v13 wc => ∃ (kq : Nat) (x13_7 : Bool), v13 = .bool x13_7 ∧ Aside0 (impl_Mat_order.j0 kq (wrap64 (a0_0 + a0_3)) x13_7 a0_0 a0_1 a0_2 a0_3 = some r) ∧ Aside0 (kq ≤ k) ∧ Aside0 (wc.heap[gb529]? = some (.cells #[.int .i64 a0_0, .int .i64 a0_1, .int .i64 a0_2, .int .i64 a0_3] 33 (0, 0))) ∧ Aside0 (Below w.heap.size w wc))
  case first =>
   have H := HC8.out
   clear HC8
   replace H := Option.bind_eq_some_iff.mp H
   obtain ⟨t534, A130, H⟩ := H
   replace H : (if t534 = (-1) then (impl_Mat_order.j0 k (wrap64 (a0_0 + a0_3)) ((wrap64 (a0_0 + a0_3)) == 0) a0_0 a0_1 a0_2 a0_3) else (impl_Mat_order.j0 k (wrap64 (a0_0 + a0_3)) false a0_0 a0_1 a0_2 a0_3)) = some r := H
   have A13 := Aside0.mk A130
   clear A130
   by_cases c14 : t534 = (-1)
   ·rw [if_pos c14] at H
    have c14b0 : (t534 == (-1)) = true := beq_iff_eq.mpr c14
    have c14b1 : (t534 != (-1)) = false := bne_eq_false_iff_eq.mpr c14
    clear c14
    (first | rw [c14b0] | (simp only [i64_w, i32_w]; rw [c14b0]) | skip)
    have H' := Aside0.mk H
    clear H
    have hcz15_0 : w12.cell? ⟨gb529, 0, none⟩ = some (.int .i64 a0_0) := bcl BK529 0
    have hcz15_1 : w12.cell? ⟨gb529, 1, none⟩ = some (.int .i64 a0_1) := bcl BK529 1
    have hcz15_2 : w12.cell? ⟨gb529, 2, none⟩ = some (.int .i64 a0_2) := bcl BK529 2
    have hcz15_3 : w12.cell? ⟨gb529, 3, none⟩ = some (.int .i64 a0_3) := bcl BK529 3
    have hfz15_0 := blk_frozen BK529.out 0
    have hfz15_1 := blk_frozen BK529.out 1
    have hfz15_2 := blk_frozen BK529.out 2
    have hfz15_3 := blk_frozen BK529.out 3
    go_wp2_with (first | ((with_reducible refine gate_callee (f := 127) rfl ?_); refine goesL_ (some 15) rfl rfl Try.func127 (by kernel_rfl) rfl #[.agg #[.int .i64 a0_0, .int .i64 a0_1, .int .i64 a0_2, .int .i64 a0_3]] rfl (by (try simp only [List.map_toArray, List.map_cons, List.map_nil]); first | done | rfl | (simp only [List.length_drop, List.length_take]; rfl)) ?_; (with_reducible refine (impl_Mat_det.calls a0_0 a0_1 a0_2 a0_3 t534 _ A13.out).mono ?_); rintro e w16 ⟨rfl, hb⟩; refine ⟨_, rfl, ?_⟩; have n0_ := Aside0.mk (bbl BK529 hb); have n1_ := Aside0.mk (bst1 HB GE529 hb); clear BK529; clear HB; have BK529 := n0_; have HB := n1_; clear n0_ n1_; (try clear hb); (try clear hb2); (try clear hk); (try clear hi)))
    go_meet
    case rel => exact ⟨_, (((wrap64 (a0_0 + a0_3)) == 0)), (by first | rfl | (simp; done) | (simp [*]; done)), H', ⟨by first | omega | exact Nat.le_refl _⟩, ⟨bkp BK529⟩, ⟨bbw1 HB GE529⟩⟩
   ·rw [if_neg c14] at H
    have c14b0 : (t534 == (-1)) = false := beq_eq_false_iff_ne.mpr c14
    have c14b1 : (t534 != (-1)) = true := bne_iff_ne.mpr c14
    (first | rw [c14b0] | (simp only [i64_w, i32_w]; rw [c14b0]) | skip)
    have H' := Aside0.mk H
    clear H
    have hcz17_0 : w12.cell? ⟨gb529, 0, none⟩ = some (.int .i64 a0_0) := bcl BK529 0
    have hcz17_1 : w12.cell? ⟨gb529, 1, none⟩ = some (.int .i64 a0_1) := bcl BK529 1
    have hcz17_2 : w12.cell? ⟨gb529, 2, none⟩ = some (.int .i64 a0_2) := bcl BK529 2
    have hcz17_3 : w12.cell? ⟨gb529, 3, none⟩ = some (.int .i64 a0_3) := bcl BK529 3
    have hfz17_0 := blk_frozen BK529.out 0
    have hfz17_1 := blk_frozen BK529.out 1
    have hfz17_2 := blk_frozen BK529.out 2
    have hfz17_3 := blk_frozen BK529.out 3
    go_wp2_with (first | ((with_reducible refine gate_callee (f := 127) rfl ?_); refine goesL_ (some 15) rfl rfl Try.func127 (by kernel_rfl) rfl #[.agg #[.int .i64 a0_0, .int .i64 a0_1, .int .i64 a0_2, .int .i64 a0_3]] rfl (by (try simp only [List.map_toArray, List.map_cons, List.map_nil]); first | done | rfl | (simp only [List.length_drop, List.length_take]; rfl)) ?_; (with_reducible refine (impl_Mat_det.calls a0_0 a0_1 a0_2 a0_3 t534 _ A13.out).mono ?_); rintro e w18 ⟨rfl, hb⟩; refine ⟨_, rfl, ?_⟩; have n0_ := Aside0.mk (bbl BK529 hb); have n1_ := Aside0.mk (bst1 HB GE529 hb); clear BK529; clear HB; have BK529 := n0_; have HB := n1_; clear n0_ n1_; (try clear hb); (try clear hb2); (try clear hk); (try clear hi)))
    go_meet
    case rel => exact ⟨_, (false), (by first | rfl | (simp; done) | (simp [*]; done)), H', ⟨by first | omega | exact Nat.le_refl _⟩, ⟨bkp BK529⟩, ⟨bbw1 HB GE529⟩⟩
  case rest =>
   clear HC8
   try clear c1
   try clear p2
   try clear c3
   try clear c3b0
   try clear c3b1
   try clear c3b2
   try clear p6
   try clear c11
   try clear c12
   try clear c14
   try clear c14b0
   try clear c14b1
   try clear hcz10_0
   try clear hcz10_1
   try clear hcz10_2
   try clear hcz10_3
   try clear hcz15_0
   try clear hcz15_1
   try clear hcz15_2
   try clear hcz15_3
   try clear hcz17_0
   try clear hcz17_1
   try clear hcz17_2
   try clear hcz17_3
   try clear hcz5_0
   try clear hcz5_1
   try clear hcz5_2
   try clear hcz5_3
   try clear hfz10_0
   try clear hfz10_1
   try clear hfz10_2
   try clear hfz10_3
   try clear hfz15_0
   try clear hfz15_1
   try clear hfz15_2
   try clear hfz15_3
   try clear hfz17_0
   try clear hfz17_1
   try clear hfz17_2
   try clear hfz17_3
   try clear hfz5_0
   try clear hfz5_1
   try clear hfz5_2
   try clear hfz5_3
   obtain ⟨kq, x13_7, rfl, HA, HJ7, BK529, HB⟩ := hcut
   cases kq with
   | zero => exact absurd HA.out (by simp [impl_Mat_order.j0])
   | succ kj7 =>
    have H := HA.out
    clear HA
    simp only [impl_Mat_order.j0] at H
    have HC19 := Aside0.mk H
    clear H
    go_upto_if 13 with (fail)
    go_cut [13] (fun v13 wc => ∃ (kq : Nat) (x13_18 : Bool), v13 = .bool x13_18 ∧ Aside0 (impl_Mat_order.j1 kq (wrap64 (a0_0 + a0_3)) x13_18 a0_0 a0_1 a0_2 a0_3 = some r) ∧ Aside0 (kq ≤ kj7) ∧ Aside0 (wc.heap[gb529]? = some (.cells #[.int .i64 a0_0, .int .i64 a0_1, .int .i64 a0_2, .int .i64 a0_3] 33 (0, 0))) ∧ Aside0 (Below w.heap.size w wc))
    case first =>
     have H := HC19.out
     clear HC19
     by_cases c20 : x13_7 = true
     ·subst c20
      have H1 : (impl_Mat_order.j1 kj7 (wrap64 (a0_0 + a0_3)) true a0_0 a0_1 a0_2 a0_3) = some r := by rw [if_pos rfl] at H; first | done | exact H
      clear H
      have H := H1
      clear H1
      have H' := Aside0.mk H
      clear H
      go_wp2
      go_meet
      case rel => exact ⟨_, (true), (by first | rfl | (simp; done) | (simp [*]; done)), H', ⟨by have := HJ7.out; first | omega | exact Nat.le_refl _⟩, ⟨bkp BK529⟩, ⟨bbw1 HB GE529⟩⟩
     ·replace c20 := Bool.eq_false_iff.mpr c20
      subst c20
      have H1 : (impl_Mat_order.j1 kj7 (wrap64 (a0_0 + a0_3)) (a0_0 == (-1) && (a0_1 == 0 && (a0_2 == 0 && (a0_3 == (-1))))) a0_0 a0_1 a0_2 a0_3) = some r := by rw [if_neg (show ¬ (false = true) by decide)] at H; first | done | exact H
      clear H
      have H := H1
      clear H1
      have H' := Aside0.mk H
      clear H
      have hcz21_0 : wc.cell? ⟨gb529, 0, none⟩ = some (.int .i64 a0_0) := bcl BK529 0
      have hcz21_1 : wc.cell? ⟨gb529, 1, none⟩ = some (.int .i64 a0_1) := bcl BK529 1
      have hcz21_2 : wc.cell? ⟨gb529, 2, none⟩ = some (.int .i64 a0_2) := bcl BK529 2
      have hcz21_3 : wc.cell? ⟨gb529, 3, none⟩ = some (.int .i64 a0_3) := bcl BK529 3
      have hfz21_0 := blk_frozen BK529.out 0
      have hfz21_1 := blk_frozen BK529.out 1
      have hfz21_2 := blk_frozen BK529.out 2
      have hfz21_3 := blk_frozen BK529.out 3
      go_wp2
      go_meet
      case rel => exact ⟨_, ((a0_0 == (-1) && (a0_1 == 0 && (a0_2 == 0 && (a0_3 == (-1)))))), (by first | rfl | (simp; done) | (simp [*]; done)), H', ⟨by have := HJ7.out; first | omega | exact Nat.le_refl _⟩, ⟨bkp BK529⟩, ⟨bbw1 HB GE529⟩⟩
    case rest =>
     clear HC19
     try clear c1
     try clear c2
     try clear p2
     try clear c3
     try clear c3b0
     try clear c3b1
     try clear c3b2
     try clear p6
     try clear c11
     try clear c12
     try clear c14
     try clear c14b0
     try clear c14b1
     try clear c20
     try clear hcz10_0
     try clear hcz10_1
     try clear hcz10_2
     try clear hcz10_3
     try clear hcz15_0
     try clear hcz15_1
     try clear hcz15_2
     try clear hcz15_3
     try clear hcz17_0
     try clear hcz17_1
     try clear hcz17_2
     try clear hcz17_3
     try clear hcz21_0
     try clear hcz21_1
     try clear hcz21_2
     try clear hcz21_3
     try clear hcz5_0
     try clear hcz5_1
     try clear hcz5_2
     try clear hcz5_3
     try clear hfz10_0
     try clear hfz10_1
     try clear hfz10_2
     try clear hfz10_3
     try clear hfz15_0
     try clear hfz15_1
     try clear hfz15_2
     try clear hfz15_3
     try clear hfz17_0
     try clear hfz17_1
     try clear hfz17_2
     try clear hfz17_3
     try clear hfz21_0
     try clear hfz21_1
     try clear hfz21_2
     try clear hfz21_3
     try clear hfz5_0
     try clear hfz5_1
     try clear hfz5_2
     try clear hfz5_3
     try clear p2
     try clear p6
     obtain ⟨kq, x13_18, rfl, HA, HJ18, BK529, HB⟩ := hcut
     cases kq with
     | zero => exact absurd HA.out (by simp [impl_Mat_order.j1])
     | succ kj18 =>
      have H := HA.out
      clear HA
      simp only [impl_Mat_order.j1] at H
      by_cases c22 : x13_18 = true
      ·subst c22
       have H1 : (some 2) = some r := by rw [if_pos rfl] at H; first | done | exact H
       clear H
       have H := H1
       clear H1
       obtain rfl := Option.some.inj H
       go_wp2
       go_ret
       exact ⟨by first | rfl | (simp [errW_none, errW_some] <;> rfl) | (simp [*, errW_none, errW_some] <;> rfl), bbw1 HB GE529⟩
      ·replace c22 := Bool.eq_false_iff.mpr c22
       subst c22
       have H1 : ((impl_Mat_det.f a0_0 a0_1 a0_2 a0_3).bind fun t535 => (if t535 = 1 then (impl_Mat_order.j2 kj18 (wrap64 (a0_0 + a0_3)) ((wrap64 (a0_0 + a0_3)) == (-1)) a0_0 a0_1 a0_2 a0_3) else (impl_Mat_order.j2 kj18 (wrap64 (a0_0 + a0_3)) false a0_0 a0_1 a0_2 a0_3))) = some r := by rw [if_neg (show ¬ (false = true) by decide)] at H; first | done | exact H
       clear H
       have H := H1
       clear H1
       have HC23 := Aside0.mk H
       clear H
       go_upto_region 7 with (fail)
       go_cut [24] (fun v24 wc => ∃ (kq : Nat) (x24_22 : Bool), v24 = .bool x24_22 ∧ Aside0 (impl_Mat_order.j2 kq (wrap64 (a0_0 + a0_3)) x24_22 a0_0 a0_1 a0_2 a0_3 = some r) ∧ Aside0 (kq ≤ kj18) ∧ Aside0 (wc.heap[gb529]? = some (.cells #[.int .i64 a0_0, .int .i64 a0_1, .int .i64 a0_2, .int .i64 a0_3] 33 (0, 0))) ∧ Aside0 (Below w.heap.size w wc))
       case first =>
        have H := HC23.out
        clear HC23
        replace H := Option.bind_eq_some_iff.mp H
        obtain ⟨t535, A240, H⟩ := H
        replace H : (if t535 = 1 then (impl_Mat_order.j2 kj18 (wrap64 (a0_0 + a0_3)) ((wrap64 (a0_0 + a0_3)) == (-1)) a0_0 a0_1 a0_2 a0_3) else (impl_Mat_order.j2 kj18 (wrap64 (a0_0 + a0_3)) false a0_0 a0_1 a0_2 a0_3)) = some r := H
        have A24 := Aside0.mk A240
        clear A240
        by_cases c25 : t535 = 1
        ·rw [if_pos c25] at H
         have c25b0 : (t535 == 1) = true := beq_iff_eq.mpr c25
         have c25b1 : (t535 != 1) = false := bne_eq_false_iff_eq.mpr c25
         clear c25
         (first | rw [c25b0] | (simp only [i64_w, i32_w]; rw [c25b0]) | skip)
         have H' := Aside0.mk H
         clear H
         have hcz26_0 : wc.cell? ⟨gb529, 0, none⟩ = some (.int .i64 a0_0) := bcl BK529 0
         have hcz26_1 : wc.cell? ⟨gb529, 1, none⟩ = some (.int .i64 a0_1) := bcl BK529 1
         have hcz26_2 : wc.cell? ⟨gb529, 2, none⟩ = some (.int .i64 a0_2) := bcl BK529 2
         have hcz26_3 : wc.cell? ⟨gb529, 3, none⟩ = some (.int .i64 a0_3) := bcl BK529 3
         have hfz26_0 := blk_frozen BK529.out 0
         have hfz26_1 := blk_frozen BK529.out 1
         have hfz26_2 := blk_frozen BK529.out 2
         have hfz26_3 := blk_frozen BK529.out 3
         go_wp2_with (first | ((with_reducible refine gate_callee (f := 127) rfl ?_); refine goesL_ (some 26) rfl rfl Try.func127 (by kernel_rfl) rfl #[.agg #[.int .i64 a0_0, .int .i64 a0_1, .int .i64 a0_2, .int .i64 a0_3]] rfl (by (try simp only [List.map_toArray, List.map_cons, List.map_nil]); first | done | rfl | (simp only [List.length_drop, List.length_take]; rfl)) ?_; (with_reducible refine (impl_Mat_det.calls a0_0 a0_1 a0_2 a0_3 t535 _ A24.out).mono ?_); rintro e w27 ⟨rfl, hb⟩; refine ⟨_, rfl, ?_⟩; have n0_ := Aside0.mk (bbl BK529 hb); have n1_ := Aside0.mk (bst1 HB GE529 hb); clear BK529; clear HB; have BK529 := n0_; have HB := n1_; clear n0_ n1_; (try clear hb); (try clear hb2); (try clear hk); (try clear hi)))
         go_meet
         case rel => exact ⟨_, (((wrap64 (a0_0 + a0_3)) == (-1))), (by first | rfl | (simp; done) | (simp [*]; done)), H', ⟨by have := HJ7.out; have := HJ18.out; first | omega | exact Nat.le_refl _⟩, ⟨bkp BK529⟩, ⟨bbw1 HB GE529⟩⟩
        ·rw [if_neg c25] at H
         have c25b0 : (t535 == 1) = false := beq_eq_false_iff_ne.mpr c25
         have c25b1 : (t535 != 1) = true := bne_iff_ne.mpr c25
         (first | rw [c25b0] | (simp only [i64_w, i32_w]; rw [c25b0]) | skip)
         have H' := Aside0.mk H
         clear H
         have hcz28_0 : wc.cell? ⟨gb529, 0, none⟩ = some (.int .i64 a0_0) := bcl BK529 0
         have hcz28_1 : wc.cell? ⟨gb529, 1, none⟩ = some (.int .i64 a0_1) := bcl BK529 1
         have hcz28_2 : wc.cell? ⟨gb529, 2, none⟩ = some (.int .i64 a0_2) := bcl BK529 2
         have hcz28_3 : wc.cell? ⟨gb529, 3, none⟩ = some (.int .i64 a0_3) := bcl BK529 3
         have hfz28_0 := blk_frozen BK529.out 0
         have hfz28_1 := blk_frozen BK529.out 1
         have hfz28_2 := blk_frozen BK529.out 2
         have hfz28_3 := blk_frozen BK529.out 3
         go_wp2_with (first | ((with_reducible refine gate_callee (f := 127) rfl ?_); refine goesL_ (some 26) rfl rfl Try.func127 (by kernel_rfl) rfl #[.agg #[.int .i64 a0_0, .int .i64 a0_1, .int .i64 a0_2, .int .i64 a0_3]] rfl (by (try simp only [List.map_toArray, List.map_cons, List.map_nil]); first | done | rfl | (simp only [List.length_drop, List.length_take]; rfl)) ?_; (with_reducible refine (impl_Mat_det.calls a0_0 a0_1 a0_2 a0_3 t535 _ A24.out).mono ?_); rintro e w29 ⟨rfl, hb⟩; refine ⟨_, rfl, ?_⟩; have n0_ := Aside0.mk (bbl BK529 hb); have n1_ := Aside0.mk (bst1 HB GE529 hb); clear BK529; clear HB; have BK529 := n0_; have HB := n1_; clear n0_ n1_; (try clear hb); (try clear hb2); (try clear hk); (try clear hi)))
         go_meet
         case rel => exact ⟨_, (false), (by first | rfl | (simp; done) | (simp [*]; done)), H', ⟨by have := HJ7.out; have := HJ18.out; first | omega | exact Nat.le_refl _⟩, ⟨bkp BK529⟩, ⟨bbw1 HB GE529⟩⟩
       case rest =>
        clear HC23
        try clear c1
        try clear c2
        try clear p2
        try clear c3
        try clear c3b0
        try clear c3b1
        try clear c3b2
        try clear p6
        try clear c11
        try clear c12
        try clear c14
        try clear c14b0
        try clear c14b1
        try clear c20
        try clear c22
        try clear c25
        try clear c25b0
        try clear c25b1
        try clear hcz10_0
        try clear hcz10_1
        try clear hcz10_2
        try clear hcz10_3
        try clear hcz15_0
        try clear hcz15_1
        try clear hcz15_2
        try clear hcz15_3
        try clear hcz17_0
        try clear hcz17_1
        try clear hcz17_2
        try clear hcz17_3
        try clear hcz21_0
        try clear hcz21_1
        try clear hcz21_2
        try clear hcz21_3
        try clear hcz26_0
        try clear hcz26_1
        try clear hcz26_2
        try clear hcz26_3
        try clear hcz28_0
        try clear hcz28_1
        try clear hcz28_2
        try clear hcz28_3
        try clear hcz5_0
        try clear hcz5_1
        try clear hcz5_2
        try clear hcz5_3
        try clear hfz10_0
        try clear hfz10_1
        try clear hfz10_2
        try clear hfz10_3
        try clear hfz15_0
        try clear hfz15_1
        try clear hfz15_2
        try clear hfz15_3
        try clear hfz17_0
        try clear hfz17_1
        try clear hfz17_2
        try clear hfz17_3
        try clear hfz21_0
        try clear hfz21_1
        try clear hfz21_2
        try clear hfz21_3
        try clear hfz26_0
        try clear hfz26_1
        try clear hfz26_2
        try clear hfz26_3
        try clear hfz28_0
        try clear hfz28_1
        try clear hfz28_2
        try clear hfz28_3
        try clear hfz5_0
        try clear hfz5_1
        try clear hfz5_2
        try clear hfz5_3
        try clear p2
        try clear p6
        obtain ⟨kq, x24_22, rfl, HA, HJ22, BK529, HB⟩ := hcut
        cases kq with
        | zero => exact absurd HA.out (by simp [impl_Mat_order.j2])
        | succ kj22 =>
         have H := HA.out
         clear HA
         simp only [impl_Mat_order.j2] at H
         by_cases c30 : x24_22 = true
         ·subst c30
          have H1 : (some 3) = some r := by rw [if_pos rfl] at H; first | done | exact H
          clear H
          have H := H1
          clear H1
          obtain rfl := Option.some.inj H
          go_wp2
          go_ret
          exact ⟨by first | rfl | (simp [errW_none, errW_some] <;> rfl) | (simp [*, errW_none, errW_some] <;> rfl), bbw1 HB GE529⟩
         ·replace c30 := Bool.eq_false_iff.mpr c30
          subst c30
          have H1 : ((impl_Mat_det.f a0_0 a0_1 a0_2 a0_3).bind fun t536 => (if t536 = 1 then (impl_Mat_order.j3 kj22 (wrap64 (a0_0 + a0_3)) ((wrap64 (a0_0 + a0_3)) == 0) a0_0 a0_1 a0_2 a0_3) else (impl_Mat_order.j3 kj22 (wrap64 (a0_0 + a0_3)) false a0_0 a0_1 a0_2 a0_3))) = some r := by rw [if_neg (show ¬ (false = true) by decide)] at H; first | done | exact H
          clear H
          have H := H1
          clear H1
          have HC31 := Aside0.mk H
          clear H
          go_upto_region 9 with (fail)
          go_cut [32] (fun v32 wc => ∃ (kq : Nat) (x32_30 : Bool), v32 = .bool x32_30 ∧ Aside0 (impl_Mat_order.j3 kq (wrap64 (a0_0 + a0_3)) x32_30 a0_0 a0_1 a0_2 a0_3 = some r) ∧ Aside0 (kq ≤ kj22) ∧ Aside0 (wc.heap[gb529]? = some (.cells #[.int .i64 a0_0, .int .i64 a0_1, .int .i64 a0_2, .int .i64 a0_3] 33 (0, 0))) ∧ Aside0 (Below w.heap.size w wc))
          case first =>
           have H := HC31.out
           clear HC31
           replace H := Option.bind_eq_some_iff.mp H
           obtain ⟨t536, A320, H⟩ := H
           replace H : (if t536 = 1 then (impl_Mat_order.j3 kj22 (wrap64 (a0_0 + a0_3)) ((wrap64 (a0_0 + a0_3)) == 0) a0_0 a0_1 a0_2 a0_3) else (impl_Mat_order.j3 kj22 (wrap64 (a0_0 + a0_3)) false a0_0 a0_1 a0_2 a0_3)) = some r := H
           have A32 := Aside0.mk A320
           clear A320
           by_cases c33 : t536 = 1
           ·rw [if_pos c33] at H
            have c33b0 : (t536 == 1) = true := beq_iff_eq.mpr c33
            have c33b1 : (t536 != 1) = false := bne_eq_false_iff_eq.mpr c33
            clear c33
            (first | rw [c33b0] | (simp only [i64_w, i32_w]; rw [c33b0]) | skip)
            have H' := Aside0.mk H
            clear H
            have hcz34_0 : wc.cell? ⟨gb529, 0, none⟩ = some (.int .i64 a0_0) := bcl BK529 0
            have hcz34_1 : wc.cell? ⟨gb529, 1, none⟩ = some (.int .i64 a0_1) := bcl BK529 1
            have hcz34_2 : wc.cell? ⟨gb529, 2, none⟩ = some (.int .i64 a0_2) := bcl BK529 2
            have hcz34_3 : wc.cell? ⟨gb529, 3, none⟩ = some (.int .i64 a0_3) := bcl BK529 3
            have hfz34_0 := blk_frozen BK529.out 0
            have hfz34_1 := blk_frozen BK529.out 1
            have hfz34_2 := blk_frozen BK529.out 2
            have hfz34_3 := blk_frozen BK529.out 3
            go_wp2_with (first | ((with_reducible refine gate_callee (f := 127) rfl ?_); refine goesL_ (some 34) rfl rfl Try.func127 (by kernel_rfl) rfl #[.agg #[.int .i64 a0_0, .int .i64 a0_1, .int .i64 a0_2, .int .i64 a0_3]] rfl (by (try simp only [List.map_toArray, List.map_cons, List.map_nil]); first | done | rfl | (simp only [List.length_drop, List.length_take]; rfl)) ?_; (with_reducible refine (impl_Mat_det.calls a0_0 a0_1 a0_2 a0_3 t536 _ A32.out).mono ?_); rintro e w35 ⟨rfl, hb⟩; refine ⟨_, rfl, ?_⟩; have n0_ := Aside0.mk (bbl BK529 hb); have n1_ := Aside0.mk (bst1 HB GE529 hb); clear BK529; clear HB; have BK529 := n0_; have HB := n1_; clear n0_ n1_; (try clear hb); (try clear hb2); (try clear hk); (try clear hi)))
            go_meet
            case rel => exact ⟨_, (((wrap64 (a0_0 + a0_3)) == 0)), (by first | rfl | (simp; done) | (simp [*]; done)), H', ⟨by have := HJ7.out; have := HJ18.out; have := HJ22.out; first | omega | exact Nat.le_refl _⟩, ⟨bkp BK529⟩, ⟨bbw1 HB GE529⟩⟩
           ·rw [if_neg c33] at H
            have c33b0 : (t536 == 1) = false := beq_eq_false_iff_ne.mpr c33
            have c33b1 : (t536 != 1) = true := bne_iff_ne.mpr c33
            (first | rw [c33b0] | (simp only [i64_w, i32_w]; rw [c33b0]) | skip)
            have H' := Aside0.mk H
            clear H
            have hcz36_0 : wc.cell? ⟨gb529, 0, none⟩ = some (.int .i64 a0_0) := bcl BK529 0
            have hcz36_1 : wc.cell? ⟨gb529, 1, none⟩ = some (.int .i64 a0_1) := bcl BK529 1
            have hcz36_2 : wc.cell? ⟨gb529, 2, none⟩ = some (.int .i64 a0_2) := bcl BK529 2
            have hcz36_3 : wc.cell? ⟨gb529, 3, none⟩ = some (.int .i64 a0_3) := bcl BK529 3
            have hfz36_0 := blk_frozen BK529.out 0
            have hfz36_1 := blk_frozen BK529.out 1
            have hfz36_2 := blk_frozen BK529.out 2
            have hfz36_3 := blk_frozen BK529.out 3
            go_wp2_with (first | ((with_reducible refine gate_callee (f := 127) rfl ?_); refine goesL_ (some 34) rfl rfl Try.func127 (by kernel_rfl) rfl #[.agg #[.int .i64 a0_0, .int .i64 a0_1, .int .i64 a0_2, .int .i64 a0_3]] rfl (by (try simp only [List.map_toArray, List.map_cons, List.map_nil]); first | done | rfl | (simp only [List.length_drop, List.length_take]; rfl)) ?_; (with_reducible refine (impl_Mat_det.calls a0_0 a0_1 a0_2 a0_3 t536 _ A32.out).mono ?_); rintro e w37 ⟨rfl, hb⟩; refine ⟨_, rfl, ?_⟩; have n0_ := Aside0.mk (bbl BK529 hb); have n1_ := Aside0.mk (bst1 HB GE529 hb); clear BK529; clear HB; have BK529 := n0_; have HB := n1_; clear n0_ n1_; (try clear hb); (try clear hb2); (try clear hk); (try clear hi)))
            go_meet
            case rel => exact ⟨_, (false), (by first | rfl | (simp; done) | (simp [*]; done)), H', ⟨by have := HJ7.out; have := HJ18.out; have := HJ22.out; first | omega | exact Nat.le_refl _⟩, ⟨bkp BK529⟩, ⟨bbw1 HB GE529⟩⟩
          case rest =>
           clear HC31
           try clear c1
           try clear c2
           try clear p2
           try clear c3
           try clear c3b0
           try clear c3b1
           try clear c3b2
           try clear p6
           try clear c11
           try clear c12
           try clear c14
           try clear c14b0
           try clear c14b1
           try clear c20
           try clear c22
           try clear c25
           try clear c25b0
           try clear c25b1
           try clear c30
           try clear c33
           try clear c33b0
           try clear c33b1
           try clear hcz10_0
           try clear hcz10_1
           try clear hcz10_2
           try clear hcz10_3
           try clear hcz15_0
           try clear hcz15_1
           try clear hcz15_2
           try clear hcz15_3
           try clear hcz17_0
           try clear hcz17_1
           try clear hcz17_2
           try clear hcz17_3
           try clear hcz21_0
           try clear hcz21_1
           try clear hcz21_2
           try clear hcz21_3
           try clear hcz26_0
           try clear hcz26_1
           try clear hcz26_2
           try clear hcz26_3
           try clear hcz28_0
           try clear hcz28_1
           try clear hcz28_2
           try clear hcz28_3
           try clear hcz34_0
           try clear hcz34_1
           try clear hcz34_2
           try clear hcz34_3
           try clear hcz36_0
           try clear hcz36_1
           try clear hcz36_2
           try clear hcz36_3
           try clear hcz5_0
           try clear hcz5_1
           try clear hcz5_2
           try clear hcz5_3
           try clear hfz10_0
           try clear hfz10_1
           try clear hfz10_2
           try clear hfz10_3
           try clear hfz15_0
           try clear hfz15_1
           try clear hfz15_2
           try clear hfz15_3
           try clear hfz17_0
           try clear hfz17_1
           try clear hfz17_2
           try clear hfz17_3
           try clear hfz21_0
           try clear hfz21_1
           try clear hfz21_2
           try clear hfz21_3
           try clear hfz26_0
           try clear hfz26_1
           try clear hfz26_2
           try clear hfz26_3
           try clear hfz28_0
           try clear hfz28_1
           try clear hfz28_2
           try clear hfz28_3
           try clear hfz34_0
           try clear hfz34_1
           try clear hfz34_2
           try clear hfz34_3
           try clear hfz36_0
           try clear hfz36_1
           try clear hfz36_2
           try clear hfz36_3
           try clear hfz5_0
           try clear hfz5_1
           try clear hfz5_2
           try clear hfz5_3
           try clear p2
           try clear p6
           obtain ⟨kq, x32_30, rfl, HA, HJ30, BK529, HB⟩ := hcut
           cases kq with
           | zero => exact absurd HA.out (by simp [impl_Mat_order.j3])
           | succ kj30 =>
            have H := HA.out
            clear HA
            simp only [impl_Mat_order.j3] at H
            by_cases c38 : x32_30 = true
            ·subst c38
             have H1 : (some 4) = some r := by rw [if_pos rfl] at H; first | done | exact H
             clear H
             have H := H1
             clear H1
             obtain rfl := Option.some.inj H
             go_wp2
             go_ret
             exact ⟨by first | rfl | (simp [errW_none, errW_some] <;> rfl) | (simp [*, errW_none, errW_some] <;> rfl), bbw1 HB GE529⟩
            ·replace c38 := Bool.eq_false_iff.mpr c38
             subst c38
             have H1 : ((impl_Mat_det.f a0_0 a0_1 a0_2 a0_3).bind fun t537 => (if t537 = 1 then (if (wrap64 (a0_0 + a0_3)) = 1 then (some 6) else (some 0)) else (some 0))) = some r := by rw [if_neg (show ¬ (false = true) by decide)] at H; first | done | exact H
             clear H
             have H := H1
             clear H1
             replace H := Option.bind_eq_some_iff.mp H
             obtain ⟨t537, A390, H⟩ := H
             replace H : (if t537 = 1 then (if (wrap64 (a0_0 + a0_3)) = 1 then (some 6) else (some 0)) else (some 0)) = some r := H
             have A39 := Aside0.mk A390
             clear A390
             by_cases c40 : t537 = 1
             ·rw [if_pos c40] at H
              have c40b0 : (t537 == 1) = true := beq_iff_eq.mpr c40
              have c40b1 : (t537 != 1) = false := bne_eq_false_iff_eq.mpr c40
              clear c40
              by_cases c41 : (wrap64 (a0_0 + a0_3)) = 1
              ·rw [if_pos c41] at H
               have c41b0 : ((wrap64 (a0_0 + a0_3)) == 1) = true := beq_iff_eq.mpr c41
               have c41b1 : ((wrap64 (a0_0 + a0_3)) != 1) = false := bne_eq_false_iff_eq.mpr c41
               clear c41
               obtain rfl := Option.some.inj H
               have hcz42_0 : wc.cell? ⟨gb529, 0, none⟩ = some (.int .i64 a0_0) := bcl BK529 0
               have hcz42_1 : wc.cell? ⟨gb529, 1, none⟩ = some (.int .i64 a0_1) := bcl BK529 1
               have hcz42_2 : wc.cell? ⟨gb529, 2, none⟩ = some (.int .i64 a0_2) := bcl BK529 2
               have hcz42_3 : wc.cell? ⟨gb529, 3, none⟩ = some (.int .i64 a0_3) := bcl BK529 3
               have hfz42_0 := blk_frozen BK529.out 0
               have hfz42_1 := blk_frozen BK529.out 1
               have hfz42_2 := blk_frozen BK529.out 2
               have hfz42_3 := blk_frozen BK529.out 3
               go_wp2_with (first | ((with_reducible refine gate_callee (f := 127) rfl ?_); refine goesL_ (some 42) rfl rfl Try.func127 (by kernel_rfl) rfl #[.agg #[.int .i64 a0_0, .int .i64 a0_1, .int .i64 a0_2, .int .i64 a0_3]] rfl (by (try simp only [List.map_toArray, List.map_cons, List.map_nil]); first | done | rfl | (simp only [List.length_drop, List.length_take]; rfl)) ?_; (with_reducible refine (impl_Mat_det.calls a0_0 a0_1 a0_2 a0_3 t537 _ A39.out).mono ?_); rintro e w43 ⟨rfl, hb⟩; refine ⟨_, rfl, ?_⟩; have n0_ := Aside0.mk (bbl BK529 hb); have n1_ := Aside0.mk (bst1 HB GE529 hb); clear BK529; clear HB; have BK529 := n0_; have HB := n1_; clear n0_ n1_; (try clear hb); (try clear hb2); (try clear hk); (try clear hi)))
               go_ret
               exact ⟨by first | rfl | (simp [errW_none, errW_some] <;> rfl) | (simp [*, errW_none, errW_some] <;> rfl), bbw1 HB GE529⟩
              ·rw [if_neg c41] at H
               have c41b0 : ((wrap64 (a0_0 + a0_3)) == 1) = false := beq_eq_false_iff_ne.mpr c41
               have c41b1 : ((wrap64 (a0_0 + a0_3)) != 1) = true := bne_iff_ne.mpr c41
               obtain rfl := Option.some.inj H
               have hcz44_0 : wc.cell? ⟨gb529, 0, none⟩ = some (.int .i64 a0_0) := bcl BK529 0
               have hcz44_1 : wc.cell? ⟨gb529, 1, none⟩ = some (.int .i64 a0_1) := bcl BK529 1
               have hcz44_2 : wc.cell? ⟨gb529, 2, none⟩ = some (.int .i64 a0_2) := bcl BK529 2
               have hcz44_3 : wc.cell? ⟨gb529, 3, none⟩ = some (.int .i64 a0_3) := bcl BK529 3
               have hfz44_0 := blk_frozen BK529.out 0
               have hfz44_1 := blk_frozen BK529.out 1
               have hfz44_2 := blk_frozen BK529.out 2
               have hfz44_3 := blk_frozen BK529.out 3
               go_wp2_with (first | ((with_reducible refine gate_callee (f := 127) rfl ?_); refine goesL_ (some 42) rfl rfl Try.func127 (by kernel_rfl) rfl #[.agg #[.int .i64 a0_0, .int .i64 a0_1, .int .i64 a0_2, .int .i64 a0_3]] rfl (by (try simp only [List.map_toArray, List.map_cons, List.map_nil]); first | done | rfl | (simp only [List.length_drop, List.length_take]; rfl)) ?_; (with_reducible refine (impl_Mat_det.calls a0_0 a0_1 a0_2 a0_3 t537 _ A39.out).mono ?_); rintro e w45 ⟨rfl, hb⟩; refine ⟨_, rfl, ?_⟩; have n0_ := Aside0.mk (bbl BK529 hb); have n1_ := Aside0.mk (bst1 HB GE529 hb); clear BK529; clear HB; have BK529 := n0_; have HB := n1_; clear n0_ n1_; (try clear hb); (try clear hb2); (try clear hk); (try clear hi)))
               go_ret
               exact ⟨by first | rfl | (simp [errW_none, errW_some] <;> rfl) | (simp [*, errW_none, errW_some] <;> rfl), bbw1 HB GE529⟩
             ·rw [if_neg c40] at H
              have c40b0 : (t537 == 1) = false := beq_eq_false_iff_ne.mpr c40
              have c40b1 : (t537 != 1) = true := bne_iff_ne.mpr c40
              obtain rfl := Option.some.inj H
              have hcz46_0 : wc.cell? ⟨gb529, 0, none⟩ = some (.int .i64 a0_0) := bcl BK529 0
              have hcz46_1 : wc.cell? ⟨gb529, 1, none⟩ = some (.int .i64 a0_1) := bcl BK529 1
              have hcz46_2 : wc.cell? ⟨gb529, 2, none⟩ = some (.int .i64 a0_2) := bcl BK529 2
              have hcz46_3 : wc.cell? ⟨gb529, 3, none⟩ = some (.int .i64 a0_3) := bcl BK529 3
              have hfz46_0 := blk_frozen BK529.out 0
              have hfz46_1 := blk_frozen BK529.out 1
              have hfz46_2 := blk_frozen BK529.out 2
              have hfz46_3 := blk_frozen BK529.out 3
              go_wp2_with (first | ((with_reducible refine gate_callee (f := 127) rfl ?_); refine goesL_ (some 42) rfl rfl Try.func127 (by kernel_rfl) rfl #[.agg #[.int .i64 a0_0, .int .i64 a0_1, .int .i64 a0_2, .int .i64 a0_3]] rfl (by (try simp only [List.map_toArray, List.map_cons, List.map_nil]); first | done | rfl | (simp only [List.length_drop, List.length_take]; rfl)) ?_; (with_reducible refine (impl_Mat_det.calls a0_0 a0_1 a0_2 a0_3 t537 _ A39.out).mono ?_); rintro e w47 ⟨rfl, hb⟩; refine ⟨_, rfl, ?_⟩; have n0_ := Aside0.mk (bbl BK529 hb); have n1_ := Aside0.mk (bst1 HB GE529 hb); clear BK529; clear HB; have BK529 := n0_; have HB := n1_; clear n0_ n1_; (try clear hb); (try clear hb2); (try clear hk); (try clear hi)))
              go_ret
              exact ⟨by first | rfl | (simp [errW_none, errW_some] <;> rfl) | (simp [*, errW_none, errW_some] <;> rfl), bbw1 HB GE529⟩

/-! ### impl_Mat_isReflection: function 92 -/
def impl_Mat_isReflection.f (k : Nat) (a0_0 : Int) (a0_1 : Int) (a0_2 : Int) (a0_3 : Int) : Option (Bool) := (impl_Mat_det.f a0_0 a0_1 a0_2 a0_3).bind fun t539 => (if t539 = (-1) then ((impl_Mat_order.f k a0_0 a0_1 a0_2 a0_3).bind fun t540 => (some (t540 == 2))) else (some false))
set_option maxHeartbeats 8000000 in
set_option maxRecDepth 100000 in
theorem impl_Mat_isReflection.calls (k : Nat) (a0_0 : Int) (a0_1 : Int) (a0_2 : Int) (a0_3 : Int) (r : Bool) (w : World) (h : impl_Mat_isReflection.f k a0_0 a0_1 a0_2 a0_3 = some r) :
  Calls Try.prog 92 #[.agg #[.int .i64 a0_0, .int .i64 a0_1, .int .i64 a0_2, .int .i64 a0_3]] w fun e w' => e = .returned (.bool r) ∧ Below w.heap.size w w' := by
 have hu33 := Try.underlying33
 have HB := Aside0.mk (Below.refl w.heap.size w)
 have H : ((impl_Mat_det.f a0_0 a0_1 a0_2 a0_3).bind fun t539 => (if t539 = (-1) then ((impl_Mat_order.f k a0_0 a0_1 a0_2 a0_3).bind fun t540 => (some (t540 == 2))) else (some false))) = some r := h
 clear h
 replace H := Option.bind_eq_some_iff.mp H
 obtain ⟨t539, A20, H⟩ := H
 replace H : (if t539 = (-1) then ((impl_Mat_order.f k a0_0 a0_1 a0_2 a0_3).bind fun t540 => (some (t540 == 2))) else (some false)) = some r := H
 have A2 := Aside0.mk A20
 clear A20
 by_cases c3 : t539 = (-1)
 ·rw [if_pos c3] at H
  have c3b0 : (t539 == (-1)) = true := beq_iff_eq.mpr c3
  have c3b1 : (t539 != (-1)) = false := bne_eq_false_iff_eq.mpr c3
  clear c3
  replace H := Option.bind_eq_some_iff.mp H
  obtain ⟨t540, A40, H⟩ := H
  replace H : (some (t540 == 2)) = some r := H
  have A4 := Aside0.mk A40
  clear A40
  obtain rfl := Option.some.inj H
  go_enter Try.func92, Try.ntmps92
  go_wp2_with (first | ((with_reducible refine gate_dst (N := 1) rfl ?_); refine box_event ?hg (N := 1) ?hd (cs := #[.int .i64 a0_0, .int .i64 a0_1, .int .i64 a0_2, .int .i64 a0_3]) (t := 33) ?hr ?_; (case hd => rfl); (case hg => rfl); (case hr => first | (go_simp; done) | (go_simp; rfl)); intro gb538 hg w5 hbox hb; have n0_ := Aside0.mk (bst0 HB hb); have n1_ := Aside0.mk (hbox); have n2_ := ngw0 hg HB; have n3_ := n2_; clear HB; have HB := n0_; have BK538 := n1_; have GW538 := n2_; have GE538 := n3_; clear n0_ n1_ n2_ n3_; clear hb hbox hg; have hcz6_0 : w5.cell? ⟨gb538, 0, none⟩ = some (.int .i64 a0_0) := bcl BK538 0; have hcz6_1 : w5.cell? ⟨gb538, 1, none⟩ = some (.int .i64 a0_1) := bcl BK538 1; have hcz6_2 : w5.cell? ⟨gb538, 2, none⟩ = some (.int .i64 a0_2) := bcl BK538 2; have hcz6_3 : w5.cell? ⟨gb538, 3, none⟩ = some (.int .i64 a0_3) := bcl BK538 3; have hfz6_0 := blk_frozen BK538.out 0; have hfz6_1 := blk_frozen BK538.out 1; have hfz6_2 := blk_frozen BK538.out 2; have hfz6_3 := blk_frozen BK538.out 3) | ((with_reducible refine gate_callee (f := 127) rfl ?_); refine goesL_ (some 4) rfl rfl Try.func127 (by kernel_rfl) rfl #[.agg #[.int .i64 a0_0, .int .i64 a0_1, .int .i64 a0_2, .int .i64 a0_3]] rfl (by (try simp only [List.map_toArray, List.map_cons, List.map_nil]); first | done | rfl | (simp only [List.length_drop, List.length_take]; rfl)) ?_; (with_reducible refine (impl_Mat_det.calls a0_0 a0_1 a0_2 a0_3 t539 _ A2.out).mono ?_); rintro e w7 ⟨rfl, hb⟩; refine ⟨_, rfl, ?_⟩; have n0_ := Aside0.mk (bbl BK538 hb); have n1_ := Aside0.mk (bst1 HB GE538 hb); clear BK538; clear HB; have BK538 := n0_; have HB := n1_; clear n0_ n1_; (try clear hb); (try clear hb2); (try clear hk); (try clear hi); have hcz8_0 : w7.cell? ⟨gb538, 0, none⟩ = some (.int .i64 a0_0) := bcl BK538 0; have hcz8_1 : w7.cell? ⟨gb538, 1, none⟩ = some (.int .i64 a0_1) := bcl BK538 1; have hcz8_2 : w7.cell? ⟨gb538, 2, none⟩ = some (.int .i64 a0_2) := bcl BK538 2; have hcz8_3 : w7.cell? ⟨gb538, 3, none⟩ = some (.int .i64 a0_3) := bcl BK538 3; have hfz8_0 := blk_frozen BK538.out 0; have hfz8_1 := blk_frozen BK538.out 1; have hfz8_2 := blk_frozen BK538.out 2; have hfz8_3 := blk_frozen BK538.out 3) | (go_at_call 128; (with_reducible refine (impl_Mat_order.calls k a0_0 a0_1 a0_2 a0_3 t540 _ A4.out).mono ?_); rintro e w9 ⟨rfl, hb⟩; have n0_ := Aside0.mk (bbl BK538 hb); have n1_ := Aside0.mk (bst1 HB GE538 hb); clear BK538; clear HB; have BK538 := n0_; have HB := n1_; clear n0_ n1_; (try clear hb); (try clear hb2); (try clear hk); (try clear hi)))
  go_ret
  exact ⟨by first | rfl | (simp [errW_none, errW_some] <;> rfl) | (simp [*, errW_none, errW_some] <;> rfl), bbw1 HB GE538⟩
 ·rw [if_neg c3] at H
  have c3b0 : (t539 == (-1)) = false := beq_eq_false_iff_ne.mpr c3
  have c3b1 : (t539 != (-1)) = true := bne_iff_ne.mpr c3
  obtain rfl := Option.some.inj H
  go_enter Try.func92, Try.ntmps92
  go_wp2_with (first | ((with_reducible refine gate_dst (N := 1) rfl ?_); refine box_event ?hg (N := 1) ?hd (cs := #[.int .i64 a0_0, .int .i64 a0_1, .int .i64 a0_2, .int .i64 a0_3]) (t := 33) ?hr ?_; (case hd => rfl); (case hg => rfl); (case hr => first | (go_simp; done) | (go_simp; rfl)); intro gb538 hg w10 hbox hb; have n0_ := Aside0.mk (bst0 HB hb); have n1_ := Aside0.mk (hbox); have n2_ := ngw0 hg HB; have n3_ := n2_; clear HB; have HB := n0_; have BK538 := n1_; have GW538 := n2_; have GE538 := n3_; clear n0_ n1_ n2_ n3_; clear hb hbox hg; have hcz11_0 : w10.cell? ⟨gb538, 0, none⟩ = some (.int .i64 a0_0) := bcl BK538 0; have hcz11_1 : w10.cell? ⟨gb538, 1, none⟩ = some (.int .i64 a0_1) := bcl BK538 1; have hcz11_2 : w10.cell? ⟨gb538, 2, none⟩ = some (.int .i64 a0_2) := bcl BK538 2; have hcz11_3 : w10.cell? ⟨gb538, 3, none⟩ = some (.int .i64 a0_3) := bcl BK538 3; have hfz11_0 := blk_frozen BK538.out 0; have hfz11_1 := blk_frozen BK538.out 1; have hfz11_2 := blk_frozen BK538.out 2; have hfz11_3 := blk_frozen BK538.out 3) | ((with_reducible refine gate_callee (f := 127) rfl ?_); refine goesL_ (some 4) rfl rfl Try.func127 (by kernel_rfl) rfl #[.agg #[.int .i64 a0_0, .int .i64 a0_1, .int .i64 a0_2, .int .i64 a0_3]] rfl (by (try simp only [List.map_toArray, List.map_cons, List.map_nil]); first | done | rfl | (simp only [List.length_drop, List.length_take]; rfl)) ?_; (with_reducible refine (impl_Mat_det.calls a0_0 a0_1 a0_2 a0_3 t539 _ A2.out).mono ?_); rintro e w12 ⟨rfl, hb⟩; refine ⟨_, rfl, ?_⟩; have n0_ := Aside0.mk (bbl BK538 hb); have n1_ := Aside0.mk (bst1 HB GE538 hb); clear BK538; clear HB; have BK538 := n0_; have HB := n1_; clear n0_ n1_; (try clear hb); (try clear hb2); (try clear hk); (try clear hi)))
  go_ret
  exact ⟨by first | rfl | (simp [errW_none, errW_some] <;> rfl) | (simp [*, errW_none, errW_some] <;> rfl), bbw1 HB GE538⟩

/-! ### impl_Vec_add: function 94 -/
def impl_Vec_add.f (a0_0 : Int) (a0_1 : Int) (a1_0 : Int) (a1_1 : Int) : Option (Int × Int) := some (wrap64 (a0_0 + a1_0), wrap64 (a0_1 + a1_1))
set_option maxHeartbeats 8000000 in
set_option maxRecDepth 100000 in
theorem impl_Vec_add.calls (a0_0 : Int) (a0_1 : Int) (a1_0 : Int) (a1_1 : Int) (r1 : Int) (r2 : Int) (w : World) (h : impl_Vec_add.f a0_0 a0_1 a1_0 a1_1 = some (r1, r2)) :
  Calls Try.prog 94 #[.agg #[.int .i64 a0_0, .int .i64 a0_1], .agg #[.int .i64 a1_0, .int .i64 a1_1]] w fun e w' => e = .returned (.agg #[.int .i64 r1, .int .i64 r2]) ∧ Below w.heap.size w w' := by
 have hu34 := Try.underlying34
 have HB := Aside0.mk (Below.refl w.heap.size w)
 have H : (some (wrap64 (a0_0 + a1_0), wrap64 (a0_1 + a1_1))) = some (r1, r2) := h
 clear h
 simp only [Option.some.injEq, Prod.mk.injEq] at H
 obtain ⟨rfl, rfl⟩ := H
 go_enter Try.func94, Try.ntmps94
 go_wp2_with (first | ((with_reducible refine gate_dst (N := 2) rfl ?_); refine box_event ?hg (N := 2) ?hd (cs := #[.int .i64 a0_0, .int .i64 a0_1]) (t := 34) ?hr ?_; (case hd => rfl); (case hg => rfl); (case hr => first | (go_simp; done) | (go_simp; rfl)); intro gb549 hg w3 hbox hb; have n0_ := Aside0.mk (bst0 HB hb); have n1_ := Aside0.mk (hbox); have n2_ := ngw0 hg HB; have n3_ := n2_; clear HB; have HB := n0_; have BK549 := n1_; have GW549 := n2_; have GE549 := n3_; clear n0_ n1_ n2_ n3_; clear hb hbox hg) | ((with_reducible refine gate_dst (N := 3) rfl ?_); refine box_event ?hg (N := 3) ?hd (cs := #[.int .i64 a1_0, .int .i64 a1_1]) (t := 34) ?hr ?_; (case hd => rfl); (case hg => rfl); (case hr => first | (go_simp; done) | (go_simp; rfl)); intro gb550 hg w4 hbox hb; have n0_ := Aside0.mk (bbl BK549 hb); have n1_ := Aside0.mk (bst1 HB GE549 hb); have n2_ := Aside0.mk (hbox); have n3_ := ngw1 hg HB GE549; have n4_ := n3_; have n5_ := nlt hg BK549; have n6_ := nsy (nlt hg BK549); clear BK549; clear HB; have BK549 := n0_; have HB := n1_; have BK550 := n2_; have GW550 := n3_; have GE550 := n4_; have NB549_550 := n5_; have NB550_549 := n6_; clear n0_ n1_ n2_ n3_ n4_ n5_ n6_; clear hb hbox hg) | ((with_reducible refine gate_dst (N := 4) rfl ?_); refine box_event ?hg (N := 4) ?hd (cs := #[.int .i64 0, .int .i64 0]) (t := 34) ?hr ?_; (case hd => rfl); (case hg => rfl); (case hr => first | (go_simp; done) | (go_simp; rfl)); intro gb551 hg w5 hbox hb; have n0_ := Aside0.mk (bbl BK549 hb); have n1_ := Aside0.mk (bbl BK550 hb); have n2_ := Aside0.mk (bst2 HB GE549 GE550 hb); have n3_ := Aside0.mk (hbox); have n4_ := ngw2 hg HB GE549 GE550; have n5_ := n4_; have n6_ := nlt hg BK549; have n7_ := nsy (nlt hg BK549); have n8_ := nlt hg BK550; have n9_ := nsy (nlt hg BK550); clear BK549; clear BK550; clear HB; have BK549 := n0_; have BK550 := n1_; have HB := n2_; have BK551 := n3_; have GW551 := n4_; have GE551 := n5_; have NB549_551 := n6_; have NB551_549 := n7_; have NB550_551 := n8_; have NB551_550 := n9_; clear n0_ n1_ n2_ n3_ n4_ n5_ n6_ n7_ n8_ n9_; clear hb hbox hg; have hnb6 := NB549_550.out; have hnc6 := NB550_549.out; have hnb7 := NB549_551.out; have hnc7 := NB551_549.out; have hcz8_0 : w5.cell? ⟨gb549, 0, none⟩ = some (.int .i64 a0_0) := bcl BK549 0; have hcz8_1 : w5.cell? ⟨gb549, 1, none⟩ = some (.int .i64 a0_1) := bcl BK549 1; have hfz8_0 := blk_frozen BK549.out 0; have hfz8_1 := blk_frozen BK549.out 1; have hnb9 := NB550_551.out; have hnc9 := NB551_550.out; have hcz10_0 : w5.cell? ⟨gb550, 0, none⟩ = some (.int .i64 a1_0) := bcl BK550 0; have hcz10_1 : w5.cell? ⟨gb550, 1, none⟩ = some (.int .i64 a1_1) := bcl BK550 1; have hfz10_0 := blk_frozen BK550.out 0; have hfz10_1 := blk_frozen BK550.out 1; have hcz11_0 : w5.cell? ⟨gb551, 0, none⟩ = some (.int .i64 0) := bcl BK551 0; have hcz11_1 : w5.cell? ⟨gb551, 1, none⟩ = some (.int .i64 0) := bcl BK551 1; have hfz11_0 := blk_frozen BK551.out 0; have hfz11_1 := blk_frozen BK551.out 1))
 refine bodyPost_ret (results_cell_row rfl _ _ gb551 34 #[.int .i64 (wrap64 (a0_0 + a1_0)), .int .i64 (wrap64 (a0_1 + a1_1))] (0, 0) _ rfl (by (with_reducible repeat (first | refine blk_drewN ?_ _ | refine blk_drew ?_ | refine blk_alloc ?_ _)); refine blk_put (cs := #[.int .i64 (wrap64 (a0_0 + a1_0)), .int .i64 0]) ?_ 1 _ rfl; (with_reducible repeat (first | refine blk_drewN ?_ _ | refine blk_drew ?_ | refine blk_alloc ?_ _)); refine blk_put (cs := #[.int .i64 0, .int .i64 0]) ?_ 0 _ rfl; (with_reducible repeat (first | refine blk_drewN ?_ _ | refine blk_drew ?_ | refine blk_alloc ?_ _)); exact BK551.out) Try.underlying34 rfl (by kernel_rfl)) rfl ?_
 exact ⟨by first | rfl | (simp [errW_none, errW_some] <;> rfl) | (simp [*, errW_none, errW_some] <;> rfl), bbw3 HB GE549 GE550 GE551⟩

/-! ### impl_gcd: function 105 -/
def impl_gcd.l0 : Nat → Int → Int → Option (Int)
 | 0, _, _ => none
 | k + 1, x0, x1 => if x1 = 0 then (some (mx x0 (wrap64 (-x0)))) else (impl_gcd.l0 k x1 (Int.tmod x0 x1))
def impl_gcd.f (k : Nat) (a0 : Int) (a1 : Int) : Option (Int) := impl_gcd.l0 k a0 a1
set_option maxHeartbeats 8000000 in
set_option maxRecDepth 100000 in
theorem impl_gcd.calls (k : Nat) (a0 : Int) (a1 : Int) (r : Int) (w : World) (h : impl_gcd.f k a0 a1 = some r) :
  Calls Try.prog 105 #[.int .i64 a0, .int .i64 a1] w fun e w' => e = .returned (.int .i64 r) ∧ Below w.heap.size w w' := by
 have HB := Aside0.mk (Below.refl w.heap.size w)
 have H : (impl_gcd.l0 k a0 a1) = some r := h
 clear h
 have H' := Aside0.mk H
 clear H
 go_enter Try.func105, Try.ntmps105
 go_wp2
 repeat (go_quiet (fail); try go_wp2)
 go_loopg [0, 1] k (fun kq v0 v1 w' => ∃ (x0_1 : Int) (x1_1 : Int), v0 = .int .i64 x0_1 ∧ v1 = .int .i64 x1_1 ∧ Aside0 (impl_gcd.l0 kq x0_1 x1_1 = some r) ∧ Aside0 (kq ≤ k) ∧ Aside0 (Below w.heap.size w w'))
 case atStart => exact ⟨(a0), (a1), (by first | rfl | (simp; done) | (simp [*]; done)), (by first | rfl | (simp; done) | (simp [*]; done)), H', ⟨Nat.le_refl _⟩, ⟨bbw0 HB⟩⟩
 case round =>
  clear H'
  try clear c1
  try clear p2
  obtain ⟨x0_1, x1_1, rfl, rfl, HA, HK1, HB⟩ := hrel
  cases gk with
  | zero => exact absurd HA.out (by simp [impl_gcd.l0])
  | succ k1 =>
   have H := HA.out
   clear HA
   simp only [impl_gcd.l0] at H
   by_cases c3 : x1_1 = 0
   ·rw [if_pos c3] at H
    have c3b0 : (x1_1 == 0) = true := beq_iff_eq.mpr c3
    have c3b1 : (x1_1 != 0) = false := bne_eq_false_iff_eq.mpr c3
    clear c3
    obtain ⟨ji4, hji4⟩ : ∃ j_ : Int, (mx x0_1 (wrap64 (-x0_1))) = j_ := ⟨_, rfl⟩
    replace H : (some ji4) = some r := by first | (rw [hji4] at H; first | done | exact H) | (simp only [hji4] at H ⊢; exact H)
    have hji4_ : (if x0_1 < (wrap64 (-x0_1)) then (wrap64 (-x0_1)) else x0_1) = ji4 := hji4
    obtain rfl := Option.some.inj H
    go_wp2
    repeat (go_quiet (fail); try go_wp2)
    go_ret
    exact ⟨by first | rfl | (simp [errW_none, errW_some] <;> rfl) | (simp only [← hji4]; first | rfl | (simp [errW_none, errW_some] <;> rfl)) | (simp [*, errW_none, errW_some] <;> rfl), bbw0 HB⟩
   ·rw [if_neg c3] at H
    have c3b0 : (x1_1 == 0) = false := beq_eq_false_iff_ne.mpr c3
    have c3b1 : (x1_1 != 0) = true := bne_iff_ne.mpr c3
    have H' := Aside0.mk H
    clear H
    go_wp2
    repeat (go_quiet (fail); try go_wp2)
    go_roundg k1
    case measure => have := HK1.out; omega
    case rel => exact ⟨(x1_1), (Int.tmod x0_1 x1_1), (by first | rfl | (simp; done) | (simp [*]; done)), (by first | rfl | (simp; done) | (simp [*]; done)), H', ⟨by have := HK1.out; omega⟩, ⟨bbw0 HB⟩⟩
end Go.Proofs.Ytndfnaehpdkaiaa.PA
