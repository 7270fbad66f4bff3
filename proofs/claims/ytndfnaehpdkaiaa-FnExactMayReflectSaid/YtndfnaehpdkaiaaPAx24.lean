/- Walks written by program: each Go function that the law reaches comes to the plain function beside it. -/
import Derived.Test.YtndfnaehpdkaiaaPAx0
import Derived.Test.YtndfnaehpdkaiaaPAx6
import Derived.Test.YtndfnaehpdkaiaaPAx7
import Derived.Test.YtndfnaehpdkaiaaPAx18
import Derived.Test.YtndfnaehpdkaiaaPAx23
namespace Go.Proofs.Ytndfnaehpdkaiaa.PA
open Go.RowKit Go.Proofs.YtndfnaehpdkaiaaW.PrintWords Go.Proofs.YtndfnaehpdkaiaaW.PrintLast Go.Proofs.YtndfnaehpdkaiaaW.PrintMore
attribute [local go_sem] max2_int min2_int max_two min_two max_three min_three max_four min_four   -- for this text's walks alone
set_option linter.unusedVariables false
set_option linter.unusedSimpArgs false

/-! ### impl_Lattice_mayReflect: function 60 -/
def impl_Lattice_mayReflect.f (k : Nat) (a0_0 : Int) (a0_1 : Int) (a0_2 : Int) (a1_0 : Int) (a1_1 : Int) (a1_2 : Int) (a1_3 : Int) (a1_4 : Int) (a1_5 : Int) : Option (Bool) := (impl_Mat_isReflection.f k a1_0 a1_1 a1_2 a1_3).bind fun t736 => (if t736 = true then ((impl_Lattice_basis.f a0_0 a0_1 a0_2).bind fun bt737 => ((impl_alongAxis.f k a1_0 a1_1 a1_2 a1_3 a1_4 a1_5).bind fun t743 => ((impl_alongAxis.f k a1_0 a1_1 a1_2 a1_3 bt737.1 bt737.2.1).bind fun t744 => ((impl_alongAxis.f k a1_0 a1_1 a1_2 a1_3 bt737.2.2.1 bt737.2.2.2).bind fun t745 => ((impl_gcd.f k t744 t745).bind fun t746 => (if t746 = 0 then (none) else (some ((Int.tmod t743 t746) == 0)))))))) else (some false))
def impl_Lattice_mayReflect.T4 : Bool × List (List Nat × List Nat) := (true, [([], []), ([0], [0]), ([], []), ([2], [2]), ([1, 3], [1, 3]), ([], []), ([5], [5]), ([], []), ([6, 7, 4], [6, 7]), ([], []), ([9], [9]), ([], []), ([10, 11, 8], [10, 11]), ([8, 12, 12], [8, 12]), ([4, 13], [4, 13]), ([14], [14]), ([15, 13, 0, 1, 2, 3, 4, 5, 6, 7, 8, 9, 10, 11, 12, 13, 14, 15], [15])])
def impl_Lattice_mayReflect.B4 : List Nat := [0, 1, 0, 4, 15, 0, 32, 0, 255, 0, 512, 0, 4095, 8191, 16383, 32767, 65535]
theorem impl_Lattice_mayReflect.tab4 : rtab .any (opsOf Try.f60 4) = impl_Lattice_mayReflect.T4 := by kernel_rfl
theorem impl_Lattice_mayReflect.bits4 : waitsOk impl_Lattice_mayReflect.T4.2 impl_Lattice_mayReflect.B4 = true := by kernel_rfl
set_option maxHeartbeats 8000000 in
set_option maxRecDepth 100000 in
theorem impl_Lattice_mayReflect.calls (k : Nat) (a0_0 : Int) (a0_1 : Int) (a0_2 : Int) (a1_0 : Int) (a1_1 : Int) (a1_2 : Int) (a1_3 : Int) (a1_4 : Int) (a1_5 : Int) (r : Bool) (w : World) (h : impl_Lattice_mayReflect.f k a0_0 a0_1 a0_2 a1_0 a1_1 a1_2 a1_3 a1_4 a1_5 = some r) :
  Calls Try.prog 60 #[.agg #[.int .i64 a0_0, .int .i64 a0_1, .int .i64 a0_2], .agg #[.int .i64 a1_0, .int .i64 a1_1, .int .i64 a1_2, .int .i64 a1_3, .int .i64 a1_4, .int .i64 a1_5]] w fun e w' => e = .returned (.bool r) ∧ Below w.heap.size w w' := by
 have hu31 := Try.underlying31
 have hu36 := Try.underlying36
 have hu33 := Try.underlying33
 have hu34 := Try.underlying34
 have HB := Aside0.mk (Below.refl w.heap.size w)
 have H : ((impl_Mat_isReflection.f k a1_0 a1_1 a1_2 a1_3).bind fun t736 => (if t736 = true then ((impl_Lattice_basis.f a0_0 a0_1 a0_2).bind fun bt737 => ((impl_alongAxis.f k a1_0 a1_1 a1_2 a1_3 a1_4 a1_5).bind fun t743 => ((impl_alongAxis.f k a1_0 a1_1 a1_2 a1_3 bt737.1 bt737.2.1).bind fun t744 => ((impl_alongAxis.f k a1_0 a1_1 a1_2 a1_3 bt737.2.2.1 bt737.2.2.2).bind fun t745 => ((impl_gcd.f k t744 t745).bind fun t746 => (if t746 = 0 then (none) else (some ((Int.tmod t743 t746) == 0)))))))) else (some false))) = some r := h
 clear h
 replace H := Option.bind_eq_some_iff.mp H
 obtain ⟨t736, A30, H⟩ := H
 replace H : (if t736 = true then ((impl_Lattice_basis.f a0_0 a0_1 a0_2).bind fun bt737 => ((impl_alongAxis.f k a1_0 a1_1 a1_2 a1_3 a1_4 a1_5).bind fun t743 => ((impl_alongAxis.f k a1_0 a1_1 a1_2 a1_3 bt737.1 bt737.2.1).bind fun t744 => ((impl_alongAxis.f k a1_0 a1_1 a1_2 a1_3 bt737.2.2.1 bt737.2.2.2).bind fun t745 => ((impl_gcd.f k t744 t745).bind fun t746 => (if t746 = 0 then (none) else (some ((Int.tmod t743 t746) == 0)))))))) else (some false)) = some r := H
 have A3 := Aside0.mk A30
 clear A30
 by_cases c4 : t736 = true
 ·subst c4
  have H1 : ((impl_Lattice_basis.f a0_0 a0_1 a0_2).bind fun bt737 => ((impl_alongAxis.f k a1_0 a1_1 a1_2 a1_3 a1_4 a1_5).bind fun t743 => ((impl_alongAxis.f k a1_0 a1_1 a1_2 a1_3 bt737.1 bt737.2.1).bind fun t744 => ((impl_alongAxis.f k a1_0 a1_1 a1_2 a1_3 bt737.2.2.1 bt737.2.2.2).bind fun t745 => ((impl_gcd.f k t744 t745).bind fun t746 => (if t746 = 0 then (none) else (some ((Int.tmod t743 t746) == 0)))))))) = some r := by rw [if_pos rfl] at H; first | done | exact H
  clear H
  have H := H1
  clear H1
  replace H := Option.bind_eq_some_iff.mp H
  obtain ⟨⟨t737, t738, t739, t740⟩, A50, H⟩ := H
  replace H : ((impl_alongAxis.f k a1_0 a1_1 a1_2 a1_3 a1_4 a1_5).bind fun t743 => ((impl_alongAxis.f k a1_0 a1_1 a1_2 a1_3 t737 t738).bind fun t744 => ((impl_alongAxis.f k a1_0 a1_1 a1_2 a1_3 t739 t740).bind fun t745 => ((impl_gcd.f k t744 t745).bind fun t746 => (if t746 = 0 then (none) else (some ((Int.tmod t743 t746) == 0))))))) = some r := H
  have A5 := Aside0.mk A50
  clear A50
  replace H := Option.bind_eq_some_iff.mp H
  obtain ⟨t743, A60, H⟩ := H
  replace H : ((impl_alongAxis.f k a1_0 a1_1 a1_2 a1_3 t737 t738).bind fun t744 => ((impl_alongAxis.f k a1_0 a1_1 a1_2 a1_3 t739 t740).bind fun t745 => ((impl_gcd.f k t744 t745).bind fun t746 => (if t746 = 0 then (none) else (some ((Int.tmod t743 t746) == 0)))))) = some r := H
  have A6 := Aside0.mk A60
  clear A60
  replace H := Option.bind_eq_some_iff.mp H
  obtain ⟨t744, A70, H⟩ := H
  replace H : ((impl_alongAxis.f k a1_0 a1_1 a1_2 a1_3 t739 t740).bind fun t745 => ((impl_gcd.f k t744 t745).bind fun t746 => (if t746 = 0 then (none) else (some ((Int.tmod t743 t746) == 0))))) = some r := H
  have A7 := Aside0.mk A70
  clear A70
  replace H := Option.bind_eq_some_iff.mp H
  obtain ⟨t745, A80, H⟩ := H
  replace H : ((impl_gcd.f k t744 t745).bind fun t746 => (if t746 = 0 then (none) else (some ((Int.tmod t743 t746) == 0)))) = some r := H
  have A8 := Aside0.mk A80
  clear A80
  replace H := Option.bind_eq_some_iff.mp H
  obtain ⟨t746, A90, H⟩ := H
  replace H : (if t746 = 0 then (none) else (some ((Int.tmod t743 t746) == 0))) = some r := H
  have A9 := Aside0.mk A90
  clear A90
  by_cases c10 : t746 = 0
  ·rw [if_pos c10] at H
   exact absurd H (by simp)
  ·rw [if_neg c10] at H
   have c10b0 : (t746 == 0) = false := beq_eq_false_iff_ne.mpr c10
   have c10b1 : (t746 != 0) = true := bne_iff_ne.mpr c10
   obtain rfl := Option.some.inj H
   go_enter Try.func60, Try.ntmps60
   try go_wp2_with (first | ((with_reducible refine gate_dst (N := 2) rfl ?_); refine box_event ?hg (N := 2) ?hd (cs := #[.int .i64 a0_0, .int .i64 a0_1, .int .i64 a0_2]) (t := 31) ?hr ?_; (case hd => rfl); (case hg => rfl); (case hr => first | (go_simp; done) | (go_simp; rfl)); intro gb734 hg w11 hbox hb; have n0_ := Aside0.mk (bst0 HB hb); have n1_ := Aside0.mk (hbox); have n2_ := ngw0 hg HB; have n3_ := n2_; clear HB; have HB := n0_; have BK734 := n1_; have GW734 := n2_; have GE734 := n3_; clear n0_ n1_ n2_ n3_; clear hb hbox hg) | ((with_reducible refine gate_dst (N := 3) rfl ?_); refine box_event ?hg (N := 3) ?hd (cs := #[.int .i64 a1_0, .int .i64 a1_1, .int .i64 a1_2, .int .i64 a1_3, .int .i64 a1_4, .int .i64 a1_5]) (t := 36) ?hr ?_; (case hd => rfl); (case hg => rfl); (case hr => first | (go_simp; done) | (go_simp; rfl)); intro gb735 hg w12 hbox hb; have n0_ := Aside0.mk (bbl BK734 hb); have n1_ := Aside0.mk (bst1 HB GE734 hb); have n2_ := Aside0.mk (hbox); have n3_ := ngw1 hg HB GE734; have n4_ := n3_; have n5_ := nlt hg BK734; have n6_ := nsy (nlt hg BK734); clear BK734; clear HB; have BK734 := n0_; have HB := n1_; have BK735 := n2_; have GW735 := n3_; have GE735 := n4_; have NB734_735 := n5_; have NB735_734 := n6_; clear n0_ n1_ n2_ n3_ n4_ n5_ n6_; clear hb hbox hg; have hnb13 := NB735_734.out; have hnc13 := NB734_735.out; have hcz14_0 : w12.cell? ⟨gb735, 0, none⟩ = some (.int .i64 a1_0) := bcl BK735 0; have hcz14_1 : w12.cell? ⟨gb735, 1, none⟩ = some (.int .i64 a1_1) := bcl BK735 1; have hcz14_2 : w12.cell? ⟨gb735, 2, none⟩ = some (.int .i64 a1_2) := bcl BK735 2; have hcz14_3 : w12.cell? ⟨gb735, 3, none⟩ = some (.int .i64 a1_3) := bcl BK735 3; have hcz14_4 : w12.cell? ⟨gb735, 4, none⟩ = some (.int .i64 a1_4) := bcl BK735 4; have hcz14_5 : w12.cell? ⟨gb735, 5, none⟩ = some (.int .i64 a1_5) := bcl BK735 5; have hfz14_0 := blk_frozen BK735.out 0; have hfz14_1 := blk_frozen BK735.out 1; have hfz14_2 := blk_frozen BK735.out 2; have hfz14_3 := blk_frozen BK735.out 3; have hfz14_4 := blk_frozen BK735.out 4; have hfz14_5 := blk_frozen BK735.out 5) | ((with_reducible refine gate_callee (f := 92) rfl ?_); refine goesL_ (some 9) rfl rfl Try.func92 (by kernel_rfl) rfl #[.agg #[.int .i64 a1_0, .int .i64 a1_1, .int .i64 a1_2, .int .i64 a1_3]] rfl (by (try simp only [List.map_toArray, List.map_cons, List.map_nil]); first | done | rfl | (simp only [List.length_drop, List.length_take]; rfl)) ?_; (with_reducible refine (impl_Mat_isReflection.calls k a1_0 a1_1 a1_2 a1_3 true _ A3.out).mono ?_); rintro e w15 ⟨rfl, hb⟩; refine ⟨_, rfl, ?_⟩; have n0_ := Aside0.mk (bbl BK734 hb); have n1_ := Aside0.mk (bbl BK735 hb); have n2_ := Aside0.mk (bst2 HB GE734 GE735 hb); clear BK734; clear BK735; clear HB; have BK734 := n0_; have BK735 := n1_; have HB := n2_; clear n0_ n1_ n2_; (try clear hb); (try clear hb2); (try clear hk); (try clear hi); have hcz16_0 : w15.cell? ⟨gb734, 0, none⟩ = some (.int .i64 a0_0) := bcl BK734 0; have hcz16_1 : w15.cell? ⟨gb734, 1, none⟩ = some (.int .i64 a0_1) := bcl BK734 1; have hcz16_2 : w15.cell? ⟨gb734, 2, none⟩ = some (.int .i64 a0_2) := bcl BK734 2; have hfz16_0 := blk_frozen BK734.out 0; have hfz16_1 := blk_frozen BK734.out 1; have hfz16_2 := blk_frozen BK734.out 2) | ((with_reducible refine gate_callee (f := 103) rfl ?_); refine goesL_ (some 13) rfl rfl Try.func103 (by kernel_rfl) rfl #[.agg #[.int .i64 a0_0, .int .i64 a0_1, .int .i64 a0_2]] rfl (by (try simp only [List.map_toArray, List.map_cons, List.map_nil]); first | done | rfl | (simp only [List.length_drop, List.length_take]; rfl)) ?_; (with_reducible refine (impl_Lattice_basis.calls a0_0 a0_1 a0_2 t737 t738 t739 t740 _ A5.out).mono ?_); rintro e w17 ⟨rfl, hb⟩; refine ⟨_, rfl, ?_⟩; have n0_ := Aside0.mk (bbl BK734 hb); have n1_ := Aside0.mk (bbl BK735 hb); have n2_ := Aside0.mk (bst2 HB GE734 GE735 hb); clear BK734; clear BK735; clear HB; have BK734 := n0_; have BK735 := n1_; have HB := n2_; clear n0_ n1_ n2_; (try clear hb); (try clear hb2); (try clear hk); (try clear hi)) | ((with_reducible refine gate_dst (N := 5) rfl ?_); refine box_event ?hg (N := 5) ?hd (cs := #[.int .i64 0, .int .i64 0]) (t := 34) ?hr ?_; (case hd => rfl); (case hg => rfl); (case hr => first | (go_simp; done) | (go_simp; rfl)); intro gb741 hg w18 hbox hb; have n0_ := Aside0.mk (bbl BK734 hb); have n1_ := Aside0.mk (bbl BK735 hb); have n2_ := Aside0.mk (bst2 HB GE734 GE735 hb); have n3_ := Aside0.mk (hbox); have n4_ := ngw2 hg HB GE734 GE735; have n5_ := n4_; have n6_ := nlt hg BK734; have n7_ := nsy (nlt hg BK734); have n8_ := nlt hg BK735; have n9_ := nsy (nlt hg BK735); clear BK734; clear BK735; clear HB; have BK734 := n0_; have BK735 := n1_; have HB := n2_; have BK741 := n3_; have GW741 := n4_; have GE741 := n5_; have NB734_741 := n6_; have NB741_734 := n7_; have NB735_741 := n8_; have NB741_735 := n9_; clear n0_ n1_ n2_ n3_ n4_ n5_ n6_ n7_ n8_ n9_; clear hb hbox hg) | ((with_reducible refine gate_dst (N := 6) rfl ?_); refine box_event ?hg (N := 6) ?hd (cs := #[.int .i64 0, .int .i64 0]) (t := 34) ?hr ?_; (case hd => rfl); (case hg => rfl); (case hr => first | (go_simp; done) | (go_simp; rfl)); intro gb742 hg w19 hbox hb; have n0_ := Aside0.mk (bbl BK734 hb); have n1_ := Aside0.mk (bbl BK735 hb); have n2_ := Aside0.mk (bbl BK741 hb); have n3_ := Aside0.mk (bst3 HB GE734 GE735 GE741 hb); have n4_ := Aside0.mk (hbox); have n5_ := ngw3 hg HB GE734 GE735 GE741; have n6_ := n5_; have n7_ := nlt hg BK734; have n8_ := nsy (nlt hg BK734); have n9_ := nlt hg BK735; have n10_ := nsy (nlt hg BK735); have n11_ := nlt hg BK741; have n12_ := nsy (nlt hg BK741); clear BK734; clear BK735; clear BK741; clear HB; have BK734 := n0_; have BK735 := n1_; have BK741 := n2_; have HB := n3_; have BK742 := n4_; have GW742 := n5_; have GE742 := n6_; have NB734_742 := n7_; have NB742_734 := n8_; have NB735_742 := n9_; have NB742_735 := n10_; have NB741_742 := n11_; have NB742_741 := n12_; clear n0_ n1_ n2_ n3_ n4_ n5_ n6_ n7_ n8_ n9_ n10_ n11_ n12_; clear hb hbox hg; have hnb20 := NB741_734.out; have hnc20 := NB734_741.out; have hnb21 := NB741_735.out; have hnc21 := NB735_741.out; have hnb22 := NB741_742.out; have hnc22 := NB742_741.out; have hcz23_0 : w19.cell? ⟨gb741, 0, none⟩ = some (.int .i64 0) := bcl BK741 0; have hcz23_1 : w19.cell? ⟨gb741, 1, none⟩ = some (.int .i64 0) := bcl BK741 1; have hfz23_0 := blk_frozen BK741.out 0; have hfz23_1 := blk_frozen BK741.out 1; have hnb24 := NB742_734.out; have hnc24 := NB734_742.out; have hnb25 := NB742_735.out; have hnc25 := NB735_742.out; have hcz26_0 : w19.cell? ⟨gb742, 0, none⟩ = some (.int .i64 0) := bcl BK742 0; have hcz26_1 : w19.cell? ⟨gb742, 1, none⟩ = some (.int .i64 0) := bcl BK742 1; have hfz26_0 := blk_frozen BK742.out 0; have hfz26_1 := blk_frozen BK742.out 1))
   have n0_ : Aside0 (((((w19.setCell ⟨gb741, 0, none⟩ (.int .i64 t737)).setCell ⟨gb741, 1, none⟩ (.int .i64 t738)).setCell ⟨gb742, 0, none⟩ (.int .i64 t739)).setCell ⟨gb742, 1, none⟩ (.int .i64 t740)).heap[gb734]? = some (.cells #[.int .i64 a0_0, .int .i64 a0_1, .int .i64 a0_2] 31 (0, 0))) := ⟨by (with_reducible repeat (first | refine blk_drewN ?_ _ | refine blk_drew ?_ | refine blk_alloc ?_ _)); refine blk_far ?_ NB734_742.out _; (with_reducible repeat (first | refine blk_drewN ?_ _ | refine blk_drew ?_ | refine blk_alloc ?_ _)); refine blk_far ?_ NB734_742.out _; (with_reducible repeat (first | refine blk_drewN ?_ _ | refine blk_drew ?_ | refine blk_alloc ?_ _)); refine blk_far ?_ NB734_741.out _; (with_reducible repeat (first | refine blk_drewN ?_ _ | refine blk_drew ?_ | refine blk_alloc ?_ _)); refine blk_far ?_ NB734_741.out _; (with_reducible repeat (first | refine blk_drewN ?_ _ | refine blk_drew ?_ | refine blk_alloc ?_ _)); exact BK734.out⟩
   have n1_ : Aside0 (((((w19.setCell ⟨gb741, 0, none⟩ (.int .i64 t737)).setCell ⟨gb741, 1, none⟩ (.int .i64 t738)).setCell ⟨gb742, 0, none⟩ (.int .i64 t739)).setCell ⟨gb742, 1, none⟩ (.int .i64 t740)).heap[gb735]? = some (.cells #[.int .i64 a1_0, .int .i64 a1_1, .int .i64 a1_2, .int .i64 a1_3, .int .i64 a1_4, .int .i64 a1_5] 36 (0, 0))) := ⟨by (with_reducible repeat (first | refine blk_drewN ?_ _ | refine blk_drew ?_ | refine blk_alloc ?_ _)); refine blk_far ?_ NB735_742.out _; (with_reducible repeat (first | refine blk_drewN ?_ _ | refine blk_drew ?_ | refine blk_alloc ?_ _)); refine blk_far ?_ NB735_742.out _; (with_reducible repeat (first | refine blk_drewN ?_ _ | refine blk_drew ?_ | refine blk_alloc ?_ _)); refine blk_far ?_ NB735_741.out _; (with_reducible repeat (first | refine blk_drewN ?_ _ | refine blk_drew ?_ | refine blk_alloc ?_ _)); refine blk_far ?_ NB735_741.out _; (with_reducible repeat (first | refine blk_drewN ?_ _ | refine blk_drew ?_ | refine blk_alloc ?_ _)); exact BK735.out⟩
   have n2_ : Aside0 (((((w19.setCell ⟨gb741, 0, none⟩ (.int .i64 t737)).setCell ⟨gb741, 1, none⟩ (.int .i64 t738)).setCell ⟨gb742, 0, none⟩ (.int .i64 t739)).setCell ⟨gb742, 1, none⟩ (.int .i64 t740)).heap[gb741]? = some (.cells #[.int .i64 t737, .int .i64 t738] 34 (0, 0))) := ⟨by (with_reducible repeat (first | refine blk_drewN ?_ _ | refine blk_drew ?_ | refine blk_alloc ?_ _)); refine blk_far ?_ NB741_742.out _; (with_reducible repeat (first | refine blk_drewN ?_ _ | refine blk_drew ?_ | refine blk_alloc ?_ _)); refine blk_far ?_ NB741_742.out _; (with_reducible repeat (first | refine blk_drewN ?_ _ | refine blk_drew ?_ | refine blk_alloc ?_ _)); refine blk_put (cs := #[.int .i64 t737, .int .i64 0]) ?_ 1 _ rfl; (with_reducible repeat (first | refine blk_drewN ?_ _ | refine blk_drew ?_ | refine blk_alloc ?_ _)); refine blk_put (cs := #[.int .i64 0, .int .i64 0]) ?_ 0 _ rfl; (with_reducible repeat (first | refine blk_drewN ?_ _ | refine blk_drew ?_ | refine blk_alloc ?_ _)); exact BK741.out⟩
   have n3_ : Aside0 (((((w19.setCell ⟨gb741, 0, none⟩ (.int .i64 t737)).setCell ⟨gb741, 1, none⟩ (.int .i64 t738)).setCell ⟨gb742, 0, none⟩ (.int .i64 t739)).setCell ⟨gb742, 1, none⟩ (.int .i64 t740)).heap[gb742]? = some (.cells #[.int .i64 t739, .int .i64 t740] 34 (0, 0))) := ⟨by (with_reducible repeat (first | refine blk_drewN ?_ _ | refine blk_drew ?_ | refine blk_alloc ?_ _)); refine blk_put (cs := #[.int .i64 t739, .int .i64 0]) ?_ 1 _ rfl; (with_reducible repeat (first | refine blk_drewN ?_ _ | refine blk_drew ?_ | refine blk_alloc ?_ _)); refine blk_put (cs := #[.int .i64 0, .int .i64 0]) ?_ 0 _ rfl; (with_reducible repeat (first | refine blk_drewN ?_ _ | refine blk_drew ?_ | refine blk_alloc ?_ _)); refine blk_far ?_ NB742_741.out _; (with_reducible repeat (first | refine blk_drewN ?_ _ | refine blk_drew ?_ | refine blk_alloc ?_ _)); refine blk_far ?_ NB742_741.out _; (with_reducible repeat (first | refine blk_drewN ?_ _ | refine blk_drew ?_ | refine blk_alloc ?_ _)); exact BK742.out⟩
   have n4_ : Aside0 (Below w.heap.size w ((((w19.setCell ⟨gb741, 0, none⟩ (.int .i64 t737)).setCell ⟨gb741, 1, none⟩ (.int .i64 t738)).setCell ⟨gb742, 0, none⟩ (.int .i64 t739)).setCell ⟨gb742, 1, none⟩ (.int .i64 t740))) := ⟨bbw4 HB GE734 GE735 GE741 GE742⟩
   (try clear BK734)
   (try clear BK735)
   (try clear BK741)
   (try clear BK742)
   (try clear HB)
   generalize ((((w19.setCell ⟨gb741, 0, none⟩ (.int .i64 t737)).setCell ⟨gb741, 1, none⟩ (.int .i64 t738)).setCell ⟨gb742, 0, none⟩ (.int .i64 t739)).setCell ⟨gb742, 1, none⟩ (.int .i64 t740)) = w27 at n0_ n1_ n2_ n3_ n4_ ⊢
   have BK734 := n0_
   have BK735 := n1_
   have BK741 := n2_
   have BK742 := n3_
   have HB := n4_
   clear n0_ n1_ n2_ n3_ n4_
   have n0_ := Aside0.mk (blk_drew BK734.out)
   have n1_ := Aside0.mk (blk_drew BK735.out)
   have n2_ := Aside0.mk (blk_drew BK741.out)
   have n3_ := Aside0.mk (blk_drew BK742.out)
   have n4_ := Aside0.mk (below_drew1 HB.out)
   clear BK734
   clear BK735
   clear BK741
   clear BK742
   clear HB
   have BK734 := n0_
   have BK735 := n1_
   have BK741 := n2_
   have BK742 := n3_
   have HB := n4_
   clear n0_ n1_ n2_ n3_ n4_
   refine start_ (n := 17) (S := fun w' => w'.cell? ⟨gb735, 0, none⟩ = some (.int .i64 a1_0) ∧ w'.cell? ⟨gb735, 1, none⟩ = some (.int .i64 a1_1) ∧ w'.cell? ⟨gb735, 2, none⟩ = some (.int .i64 a1_2) ∧ w'.cell? ⟨gb735, 3, none⟩ = some (.int .i64 a1_3) ∧ w'.cell? ⟨gb735, 4, none⟩ = some (.int .i64 a1_4) ∧ w'.cell? ⟨gb735, 5, none⟩ = some (.int .i64 a1_5) ∧ w'.cell? ⟨gb741, 0, none⟩ = some (.int .i64 t737) ∧ w'.cell? ⟨gb741, 1, none⟩ = some (.int .i64 t738) ∧ w'.cell? ⟨gb742, 0, none⟩ = some (.int .i64 t739) ∧ w'.cell? ⟨gb742, 1, none⟩ = some (.int .i64 t740)) (ds := []) #[false, false, false, false, false, false, false, false, false, false, false, false, false, false, false, false, false] (by kernel_rfl) rfl rfl ⟨bcl BK735 0, bcl BK735 1, bcl BK735 2, bcl BK735 3, bcl BK735 4, bcl BK735 5, bcl BK741 0, bcl BK741 1, bcl BK742 0, bcl BK742 1⟩ (fun hHeld => ?_); refine with_tabW impl_Lattice_mayReflect.tab4 impl_Lattice_mayReflect.bits4 (fun HT_ HW_ => ?_)
   generalize w27.drew = w28 at BK734 BK735 BK741 BK742 HB hHeld ⊢
   refine pure_ (i := 0) (N := some 16) (v := ?_) (a' := ?_) #[true, false, false, false, false, false, false, false, false, false, false, false, false, false, false, false, false] rfl rfl (any_of HT_.out (by kernel_rfl)) (fun _ _ _ h => h) (Or.inl ⟨by rfl, ?_⟩) ?_ ?_
   rotate_left
   ·intro w'
    go_simp
    with_reducible rfl
   rotate_left
   ·simp only [Act.put, sA, sB, sC, i64_w, i32_w]
    rfl
   refine pure_ (i := 2) (N := some 18) (v := ?_) (a' := ?_) #[true, false, true, false, false, false, false, false, false, false, false, false, false, false, false, false, false] rfl rfl (any_of HT_.out (by kernel_rfl)) (fun _ _ _ h => h) (Or.inl ⟨by rfl, ?_⟩) ?_ ?_
   rotate_left
   ·intro w'
    go_simp
    with_reducible rfl
   rotate_left
   ·simp only [Act.put, sA, sB, sC, i64_w, i32_w]
    rfl
   refine pure_ (i := 5) (N := some 21) (v := ?_) (a' := ?_) #[true, false, true, false, false, true, false, false, false, false, false, false, false, false, false, false, false] rfl rfl (any_of HT_.out (by kernel_rfl)) (fun _ _ _ h => h) (Or.inl ⟨by rfl, ?_⟩) ?_ ?_
   rotate_left
   ·intro w'
    go_simp
    with_reducible rfl
   rotate_left
   ·simp only [Act.put, sA, sB, sC, i64_w, i32_w]
    rfl
   refine pure_ (i := 9) (N := some 25) (v := ?_) (a' := ?_) #[true, false, true, false, false, true, false, false, false, true, false, false, false, false, false, false, false] rfl rfl (any_of HT_.out (by kernel_rfl)) (fun _ _ _ h => h) (Or.inl ⟨by rfl, ?_⟩) ?_ ?_
   rotate_left
   ·intro w'
    go_simp
    with_reducible rfl
   rotate_left
   ·simp only [Act.put, sA, sB, sC, i64_w, i32_w]
    rfl
   refine take_ (i := 1) (N := some 17) (v := ?_) (a' := ?_) #[true, true, true, false, false, true, false, false, false, true, false, false, false, false, false, false, false] rfl rfl (take_ofW HT_.out HW_.out (by kernel_rfl)) (fun _ _ _ h => h) (Or.inl ⟨by rfl, ?_⟩) hHeld ?_ ?_
   rotate_left
   ·rintro w' ⟨s0, s1, s2, s3, s4, s5, s6, s7, s8, s9⟩
    go_simp
    with_reducible rfl
   rotate_left
   ·simp only [Act.put, sA, sB, sC, i64_w, i32_w]
    rfl
   refine take_ (i := 3) (N := some 19) (v := ?_) (a' := ?_) #[true, true, true, true, false, true, false, false, false, true, false, false, false, false, false, false, false] rfl rfl (take_ofW HT_.out HW_.out (by kernel_rfl)) (fun _ _ _ h => h) (Or.inl ⟨by rfl, ?_⟩) hHeld ?_ ?_
   rotate_left
   ·rintro w' ⟨s0, s1, s2, s3, s4, s5, s6, s7, s8, s9⟩
    go_simp
    with_reducible rfl
   rotate_left
   ·simp only [Act.put, sA, sB, sC, i64_w, i32_w]
    rfl
   refine take_ (i := 6) (N := some 22) (v := ?_) (a' := ?_) #[true, true, true, true, false, true, true, false, false, true, false, false, false, false, false, false, false] rfl rfl (take_ofW HT_.out HW_.out (by kernel_rfl)) (fun _ _ _ h => h) (Or.inl ⟨by rfl, ?_⟩) hHeld ?_ ?_
   rotate_left
   ·rintro w' ⟨s0, s1, s2, s3, s4, s5, s6, s7, s8, s9⟩
    go_simp
    with_reducible rfl
   rotate_left
   ·simp only [Act.put, sA, sB, sC, i64_w, i32_w]
    rfl
   refine take_ (i := 7) (N := some 23) (v := ?_) (a' := ?_) #[true, true, true, true, false, true, true, true, false, true, false, false, false, false, false, false, false] rfl rfl (take_ofW HT_.out HW_.out (by kernel_rfl)) (fun _ _ _ h => h) (Or.inl ⟨by rfl, ?_⟩) hHeld ?_ ?_
   rotate_left
   ·rintro w' ⟨s0, s1, s2, s3, s4, s5, s6, s7, s8, s9⟩
    go_simp
    with_reducible rfl
   rotate_left
   ·simp only [Act.put, sA, sB, sC, i64_w, i32_w]
    rfl
   refine take_ (i := 10) (N := some 26) (v := ?_) (a' := ?_) #[true, true, true, true, false, true, true, true, false, true, true, false, false, false, false, false, false] rfl rfl (take_ofW HT_.out HW_.out (by kernel_rfl)) (fun _ _ _ h => h) (Or.inl ⟨by rfl, ?_⟩) hHeld ?_ ?_
   rotate_left
   ·rintro w' ⟨s0, s1, s2, s3, s4, s5, s6, s7, s8, s9⟩
    go_simp
    with_reducible rfl
   rotate_left
   ·simp only [Act.put, sA, sB, sC, i64_w, i32_w]
    rfl
   refine take_ (i := 11) (N := some 27) (v := ?_) (a' := ?_) #[true, true, true, true, false, true, true, true, false, true, true, true, false, false, false, false, false] rfl rfl (take_ofW HT_.out HW_.out (by kernel_rfl)) (fun _ _ _ h => h) (Or.inl ⟨by rfl, ?_⟩) hHeld ?_ ?_
   rotate_left
   ·rintro w' ⟨s0, s1, s2, s3, s4, s5, s6, s7, s8, s9⟩
    go_simp
    with_reducible rfl
   rotate_left
   ·simp only [Act.put, sA, sB, sC, i64_w, i32_w]
    rfl
   refine one_ (i := 4) (N := some 20) #[true, true, true, true, true, true, true, true, false, true, true, true, false, false, false, false, false] rfl rfl (one_of HT_.out (by kernel_rfl)) (by decide) (fun K hK => ?_)
   refine goes_ Try.func104 (by kernel_rfl) rfl #[.agg #[.int .i64 a1_0, .int .i64 a1_1, .int .i64 a1_2, .int .i64 a1_3], .agg #[.int .i64 a1_4, .int .i64 a1_5]] (by rfl) rfl rfl (by (try simp only [List.map_toArray, List.map_cons, List.map_nil]); first | done | rfl | (simp only [List.length_drop, List.length_take]; rfl)) ?_
   with_reducible refine (impl_alongAxis.calls k a1_0 a1_1 a1_2 a1_3 a1_4 a1_5 t743 _ A6.out).mono ?_
   rintro e w29 ⟨rfl, hb⟩
   refine ⟨_, rfl, ?_⟩
   have n0_ := Aside0.mk (bbl BK734 hb)
   have n1_ := Aside0.mk (bbl BK735 hb)
   have n2_ := Aside0.mk (bbl BK741 hb)
   have n3_ := Aside0.mk (bbl BK742 hb)
   have n4_ := Aside0.mk (bst4 HB GE734 GE735 GE741 GE742 hb)
   clear BK734
   clear BK735
   clear BK741
   clear BK742
   clear HB
   have BK734 := n0_
   have BK735 := n1_
   have BK741 := n2_
   have BK742 := n3_
   have HB := n4_
   clear n0_ n1_ n2_ n3_ n4_
   (try clear hb)
   (try clear hb2)
   (try clear hk)
   (try clear hi)
   refine hK.out _ _ ⟨bcl BK735 0, bcl BK735 1, bcl BK735 2, bcl BK735 3, bcl BK735 4, bcl BK735 5, bcl BK741 0, bcl BK741 1, bcl BK742 0, bcl BK742 1⟩ (fun hHeld => ?_)
   clear hK K
   refine norm_ (a' := ?_) ?_ ?_
   rotate_left
   ·show Act.put _ (some 20) _ = _
    simp only [Act.put, sA, sB, sC, i64_w, i32_w]
    rfl
   refine one_ (i := 8) (N := some 24) #[true, true, true, true, true, true, true, true, true, true, true, true, false, false, false, false, false] rfl rfl (one_of HT_.out (by kernel_rfl)) (by decide) (fun K hK => ?_)
   refine goes_ Try.func104 (by kernel_rfl) rfl #[.agg #[.int .i64 a1_0, .int .i64 a1_1, .int .i64 a1_2, .int .i64 a1_3], .agg #[.int .i64 t737, .int .i64 t738]] (by rfl) rfl rfl (by (try simp only [List.map_toArray, List.map_cons, List.map_nil]); first | done | rfl | (simp only [List.length_drop, List.length_take]; rfl)) ?_
   with_reducible refine (impl_alongAxis.calls k a1_0 a1_1 a1_2 a1_3 t737 t738 t744 _ A7.out).mono ?_
   rintro e w30 ⟨rfl, hb⟩
   refine ⟨_, rfl, ?_⟩
   have n0_ := Aside0.mk (bbl BK734 hb)
   have n1_ := Aside0.mk (bbl BK735 hb)
   have n2_ := Aside0.mk (bbl BK741 hb)
   have n3_ := Aside0.mk (bbl BK742 hb)
   have n4_ := Aside0.mk (bst4 HB GE734 GE735 GE741 GE742 hb)
   clear BK734
   clear BK735
   clear BK741
   clear BK742
   clear HB
   have BK734 := n0_
   have BK735 := n1_
   have BK741 := n2_
   have BK742 := n3_
   have HB := n4_
   clear n0_ n1_ n2_ n3_ n4_
   (try clear hb)
   (try clear hb2)
   (try clear hk)
   (try clear hi)
   refine hK.out _ _ ⟨bcl BK735 0, bcl BK735 1, bcl BK735 2, bcl BK735 3, bcl BK735 4, bcl BK735 5, bcl BK741 0, bcl BK741 1, bcl BK742 0, bcl BK742 1⟩ (fun hHeld => ?_)
   clear hK K
   refine norm_ (a' := ?_) ?_ ?_
   rotate_left
   ·show Act.put _ (some 24) _ = _
    simp only [Act.put, sA, sB, sC, i64_w, i32_w]
    rfl
   refine one_ (i := 12) (N := some 28) #[true, true, true, true, true, true, true, true, true, true, true, true, true, false, false, false, false] rfl rfl (one_of HT_.out (by kernel_rfl)) (by decide) (fun K hK => ?_)
   refine goes_ Try.func104 (by kernel_rfl) rfl #[.agg #[.int .i64 a1_0, .int .i64 a1_1, .int .i64 a1_2, .int .i64 a1_3], .agg #[.int .i64 t739, .int .i64 t740]] (by rfl) rfl rfl (by (try simp only [List.map_toArray, List.map_cons, List.map_nil]); first | done | rfl | (simp only [List.length_drop, List.length_take]; rfl)) ?_
   with_reducible refine (impl_alongAxis.calls k a1_0 a1_1 a1_2 a1_3 t739 t740 t745 _ A8.out).mono ?_
   rintro e w31 ⟨rfl, hb⟩
   refine ⟨_, rfl, ?_⟩
   have n0_ := Aside0.mk (bbl BK734 hb)
   have n1_ := Aside0.mk (bbl BK735 hb)
   have n2_ := Aside0.mk (bbl BK741 hb)
   have n3_ := Aside0.mk (bbl BK742 hb)
   have n4_ := Aside0.mk (bst4 HB GE734 GE735 GE741 GE742 hb)
   clear BK734
   clear BK735
   clear BK741
   clear BK742
   clear HB
   have BK734 := n0_
   have BK735 := n1_
   have BK741 := n2_
   have BK742 := n3_
   have HB := n4_
   clear n0_ n1_ n2_ n3_ n4_
   (try clear hb)
   (try clear hb2)
   (try clear hk)
   (try clear hi)
   refine hK.out _ _ ⟨bcl BK735 0, bcl BK735 1, bcl BK735 2, bcl BK735 3, bcl BK735 4, bcl BK735 5, bcl BK741 0, bcl BK741 1, bcl BK742 0, bcl BK742 1⟩ (fun hHeld => ?_)
   clear hK K
   refine norm_ (a' := ?_) ?_ ?_
   rotate_left
   ·show Act.put _ (some 28) _ = _
    simp only [Act.put, sA, sB, sC, i64_w, i32_w]
    rfl
   refine one_ (i := 13) (N := some 29) #[true, true, true, true, true, true, true, true, true, true, true, true, true, true, false, false, false] rfl rfl (one_of HT_.out (by kernel_rfl)) (by decide) (fun K hK => ?_)
   refine goes_ Try.func105 (by kernel_rfl) rfl #[.int .i64 t744, .int .i64 t745] (by rfl) rfl rfl (by (try simp only [List.map_toArray, List.map_cons, List.map_nil]); first | done | rfl | (simp only [List.length_drop, List.length_take]; rfl)) ?_
   with_reducible refine (impl_gcd.calls k t744 t745 t746 _ A9.out).mono ?_
   rintro e w32 ⟨rfl, hb⟩
   refine ⟨_, rfl, ?_⟩
   have n0_ := Aside0.mk (bbl BK734 hb)
   have n1_ := Aside0.mk (bbl BK735 hb)
   have n2_ := Aside0.mk (bbl BK741 hb)
   have n3_ := Aside0.mk (bbl BK742 hb)
   have n4_ := Aside0.mk (bst4 HB GE734 GE735 GE741 GE742 hb)
   clear BK734
   clear BK735
   clear BK741
   clear BK742
   clear HB
   have BK734 := n0_
   have BK735 := n1_
   have BK741 := n2_
   have BK742 := n3_
   have HB := n4_
   clear n0_ n1_ n2_ n3_ n4_
   (try clear hb)
   (try clear hb2)
   (try clear hk)
   (try clear hi)
   refine hK.out _ _ ⟨bcl BK735 0, bcl BK735 1, bcl BK735 2, bcl BK735 3, bcl BK735 4, bcl BK735 5, bcl BK741 0, bcl BK741 1, bcl BK742 0, bcl BK742 1⟩ (fun hHeld => ?_)
   clear hK K
   refine norm_ (a' := ?_) ?_ ?_
   rotate_left
   ·show Act.put _ (some 29) _ = _
    simp only [Act.put, sA, sB, sC, i64_w, i32_w]
    rfl
   refine pure_ (i := 14) (N := some 30) (v := ?_) (a' := ?_) #[true, true, true, true, true, true, true, true, true, true, true, true, true, true, true, false, false] rfl rfl (any_of HT_.out (by kernel_rfl)) (fun _ _ _ h => h) (Or.inl ⟨by rfl, ?_⟩) ?_ ?_
   rotate_left
   ·intro w'
    go_simp
    with_reducible rfl
   rotate_left
   ·simp only [Act.put, sA, sB, sC, i64_w, i32_w]
    rfl
   refine pure_ (i := 15) (N := some 31) (v := ?_) (a' := ?_) #[true, true, true, true, true, true, true, true, true, true, true, true, true, true, true, true, false] rfl rfl (any_of HT_.out (by kernel_rfl)) (fun _ _ _ h => h) (Or.inl ⟨by rfl, ?_⟩) ?_ ?_
   rotate_left
   ·intro w'
    go_simp
    with_reducible rfl
   rotate_left
   ·simp only [Act.put, sA, sB, sC, i64_w, i32_w]
    rfl
   refine pure_ (i := 16) (N := some 4) (v := ?_) (a' := ?_) #[true, true, true, true, true, true, true, true, true, true, true, true, true, true, true, true, true] rfl rfl (any_of HT_.out (by kernel_rfl)) (fun _ _ _ h => h) (Or.inl ⟨by rfl, ?_⟩) ?_ ?_
   rotate_left
   ·intro w'
    go_simp
    with_reducible rfl
   rotate_left
   ·simp only [Act.put, sA, sB, sC, i64_w, i32_w]
    rfl
   refine done_ (done_of HT_.out (by kernel_rfl)) ?_
   try go_wp2
   go_ret
   exact ⟨by first | rfl | (simp [errW_none, errW_some] <;> rfl) | (simp [*, errW_none, errW_some] <;> rfl), bbw4 HB GE734 GE735 GE741 GE742⟩
 ·replace c4 := Bool.eq_false_iff.mpr c4
  subst c4
  have H1 : (some false) = some r := by rw [if_neg (show ¬ (false = true) by decide)] at H; first | done | exact H
  clear H
  have H := H1
  clear H1
  obtain rfl := Option.some.inj H
  go_enter Try.func60, Try.ntmps60
  go_wp2_with (first | ((with_reducible refine gate_dst (N := 2) rfl ?_); refine box_event ?hg (N := 2) ?hd (cs := #[.int .i64 a0_0, .int .i64 a0_1, .int .i64 a0_2]) (t := 31) ?hr ?_; (case hd => rfl); (case hg => rfl); (case hr => first | (go_simp; done) | (go_simp; rfl)); intro gb734 hg w33 hbox hb; have n0_ := Aside0.mk (bst0 HB hb); have n1_ := Aside0.mk (hbox); have n2_ := ngw0 hg HB; have n3_ := n2_; clear HB; have HB := n0_; have BK734 := n1_; have GW734 := n2_; have GE734 := n3_; clear n0_ n1_ n2_ n3_; clear hb hbox hg) | ((with_reducible refine gate_dst (N := 3) rfl ?_); refine box_event ?hg (N := 3) ?hd (cs := #[.int .i64 a1_0, .int .i64 a1_1, .int .i64 a1_2, .int .i64 a1_3, .int .i64 a1_4, .int .i64 a1_5]) (t := 36) ?hr ?_; (case hd => rfl); (case hg => rfl); (case hr => first | (go_simp; done) | (go_simp; rfl)); intro gb735 hg w34 hbox hb; have n0_ := Aside0.mk (bbl BK734 hb); have n1_ := Aside0.mk (bst1 HB GE734 hb); have n2_ := Aside0.mk (hbox); have n3_ := ngw1 hg HB GE734; have n4_ := n3_; have n5_ := nlt hg BK734; have n6_ := nsy (nlt hg BK734); clear BK734; clear HB; have BK734 := n0_; have HB := n1_; have BK735 := n2_; have GW735 := n3_; have GE735 := n4_; have NB734_735 := n5_; have NB735_734 := n6_; clear n0_ n1_ n2_ n3_ n4_ n5_ n6_; clear hb hbox hg; have hnb35 := NB735_734.out; have hnc35 := NB734_735.out; have hcz36_0 : w34.cell? ⟨gb735, 0, none⟩ = some (.int .i64 a1_0) := bcl BK735 0; have hcz36_1 : w34.cell? ⟨gb735, 1, none⟩ = some (.int .i64 a1_1) := bcl BK735 1; have hcz36_2 : w34.cell? ⟨gb735, 2, none⟩ = some (.int .i64 a1_2) := bcl BK735 2; have hcz36_3 : w34.cell? ⟨gb735, 3, none⟩ = some (.int .i64 a1_3) := bcl BK735 3; have hcz36_4 : w34.cell? ⟨gb735, 4, none⟩ = some (.int .i64 a1_4) := bcl BK735 4; have hcz36_5 : w34.cell? ⟨gb735, 5, none⟩ = some (.int .i64 a1_5) := bcl BK735 5; have hfz36_0 := blk_frozen BK735.out 0; have hfz36_1 := blk_frozen BK735.out 1; have hfz36_2 := blk_frozen BK735.out 2; have hfz36_3 := blk_frozen BK735.out 3; have hfz36_4 := blk_frozen BK735.out 4; have hfz36_5 := blk_frozen BK735.out 5) | ((with_reducible refine gate_callee (f := 92) rfl ?_); refine goesL_ (some 9) rfl rfl Try.func92 (by kernel_rfl) rfl #[.agg #[.int .i64 a1_0, .int .i64 a1_1, .int .i64 a1_2, .int .i64 a1_3]] rfl (by (try simp only [List.map_toArray, List.map_cons, List.map_nil]); first | done | rfl | (simp only [List.length_drop, List.length_take]; rfl)) ?_; (with_reducible refine (impl_Mat_isReflection.calls k a1_0 a1_1 a1_2 a1_3 false _ A3.out).mono ?_); rintro e w37 ⟨rfl, hb⟩; refine ⟨_, rfl, ?_⟩; have n0_ := Aside0.mk (bbl BK734 hb); have n1_ := Aside0.mk (bbl BK735 hb); have n2_ := Aside0.mk (bst2 HB GE734 GE735 hb); clear BK734; clear BK735; clear HB; have BK734 := n0_; have BK735 := n1_; have HB := n2_; clear n0_ n1_ n2_; (try clear hb); (try clear hb2); (try clear hk); (try clear hi)))
  go_ret
  exact ⟨by first | rfl | (simp [errW_none, errW_some] <;> rfl) | (simp [*, errW_none, errW_some] <;> rfl), bbw2 HB GE734 GE735⟩

/-! ### impl_MayReflect: function 30 -/
def impl_MayReflect.f (k : Nat) (a0 : Int) (a1_0 : Int) (a1_1 : Int) (a1_2 : Int) (a2_0 : Int) (a2_1 : Int) (a2_2 : Int) (a2_3 : Int) (a2_4 : Int) (a2_5 : Int) : Option (Bool × Int) := (impl_frameCode.f a0 a1_0 a1_1 a1_2).bind fun t749 => (if t749 = 0 then ((impl_isSuitable.f k a0 a1_0 a1_1 a1_2 a2_0 a2_1 a2_2 a2_3 a2_4 a2_5).bind fun t750 => (if t750 = true then ((impl_Lattice_mayReflect.f k a1_0 a1_1 a1_2 a2_0 a2_1 a2_2 a2_3 a2_4 a2_5).bind fun t751 => (some (t751, 0))) else (some (false, 2)))) else (some (false, t749)))
set_option maxHeartbeats 8000000 in
set_option maxRecDepth 100000 in
theorem impl_MayReflect.calls (k : Nat) (a0 : Int) (a1_0 : Int) (a1_1 : Int) (a1_2 : Int) (a2_0 : Int) (a2_1 : Int) (a2_2 : Int) (a2_3 : Int) (a2_4 : Int) (a2_5 : Int) (r1 : Bool) (r2 : Int) (w : World) (h : impl_MayReflect.f k a0 a1_0 a1_1 a1_2 a2_0 a2_1 a2_2 a2_3 a2_4 a2_5 = some (r1, r2)) :
  Calls Try.prog 30 #[.int .i64 a0, .agg #[.int .i64 a1_0, .int .i64 a1_1, .int .i64 a1_2], .agg #[.int .i64 a2_0, .int .i64 a2_1, .int .i64 a2_2, .int .i64 a2_3, .int .i64 a2_4, .int .i64 a2_5]] w fun e w' => e = .returned (.tuple #[.bool r1, .int .i64 r2]) ∧ Below w.heap.size w w' := by
 have hu31 := Try.underlying31
 have hu36 := Try.underlying36
 have HB := Aside0.mk (Below.refl w.heap.size w)
 have H : ((impl_frameCode.f a0 a1_0 a1_1 a1_2).bind fun t749 => (if t749 = 0 then ((impl_isSuitable.f k a0 a1_0 a1_1 a1_2 a2_0 a2_1 a2_2 a2_3 a2_4 a2_5).bind fun t750 => (if t750 = true then ((impl_Lattice_mayReflect.f k a1_0 a1_1 a1_2 a2_0 a2_1 a2_2 a2_3 a2_4 a2_5).bind fun t751 => (some (t751, 0))) else (some (false, 2)))) else (some (false, t749)))) = some (r1, r2) := h
 clear h
 replace H := Option.bind_eq_some_iff.mp H
 obtain ⟨t749, A40, H⟩ := H
 replace H : (if t749 = 0 then ((impl_isSuitable.f k a0 a1_0 a1_1 a1_2 a2_0 a2_1 a2_2 a2_3 a2_4 a2_5).bind fun t750 => (if t750 = true then ((impl_Lattice_mayReflect.f k a1_0 a1_1 a1_2 a2_0 a2_1 a2_2 a2_3 a2_4 a2_5).bind fun t751 => (some (t751, 0))) else (some (false, 2)))) else (some (false, t749))) = some (r1, r2) := H
 have A4 := Aside0.mk A40
 clear A40
 by_cases c5 : t749 = 0
 ·rw [if_pos c5] at H
  have c5b0 : (t749 == 0) = true := beq_iff_eq.mpr c5
  have c5b1 : (t749 != 0) = false := bne_eq_false_iff_eq.mpr c5
  clear c5
  replace H := Option.bind_eq_some_iff.mp H
  obtain ⟨t750, A60, H⟩ := H
  replace H : (if t750 = true then ((impl_Lattice_mayReflect.f k a1_0 a1_1 a1_2 a2_0 a2_1 a2_2 a2_3 a2_4 a2_5).bind fun t751 => (some (t751, 0))) else (some (false, 2))) = some (r1, r2) := H
  have A6 := Aside0.mk A60
  clear A60
  by_cases c7 : t750 = true
  ·subst c7
   have H1 : ((impl_Lattice_mayReflect.f k a1_0 a1_1 a1_2 a2_0 a2_1 a2_2 a2_3 a2_4 a2_5).bind fun t751 => (some (t751, 0))) = some (r1, r2) := by rw [if_pos rfl] at H; first | done | exact H
   clear H
   have H := H1
   clear H1
   replace H := Option.bind_eq_some_iff.mp H
   obtain ⟨t751, A80, H⟩ := H
   replace H : (some (t751, 0)) = some (r1, r2) := H
   have A8 := Aside0.mk A80
   clear A80
   simp only [Option.some.injEq, Prod.mk.injEq] at H
   obtain ⟨rfl, rfl⟩ := H
   go_enter Try.func30, Try.ntmps30
   go_wp2_with (first | ((with_reducible refine gate_dst (N := 4) rfl ?_); refine box_event ?hg (N := 4) ?hd (cs := #[.int .i64 a1_0, .int .i64 a1_1, .int .i64 a1_2]) (t := 31) ?hr ?_; (case hd => rfl); (case hg => rfl); (case hr => first | (go_simp; done) | (go_simp; rfl)); intro gb747 hg w9 hbox hb; have n0_ := Aside0.mk (bst0 HB hb); have n1_ := Aside0.mk (hbox); have n2_ := ngw0 hg HB; have n3_ := n2_; clear HB; have HB := n0_; have BK747 := n1_; have GW747 := n2_; have GE747 := n3_; clear n0_ n1_ n2_ n3_; clear hb hbox hg) | ((with_reducible refine gate_dst (N := 5) rfl ?_); refine box_event ?hg (N := 5) ?hd (cs := #[.int .i64 a2_0, .int .i64 a2_1, .int .i64 a2_2, .int .i64 a2_3, .int .i64 a2_4, .int .i64 a2_5]) (t := 36) ?hr ?_; (case hd => rfl); (case hg => rfl); (case hr => first | (go_simp; done) | (go_simp; rfl)); intro gb748 hg w10 hbox hb; have n0_ := Aside0.mk (bbl BK747 hb); have n1_ := Aside0.mk (bst1 HB GE747 hb); have n2_ := Aside0.mk (hbox); have n3_ := ngw1 hg HB GE747; have n4_ := n3_; have n5_ := nlt hg BK747; have n6_ := nsy (nlt hg BK747); clear BK747; clear HB; have BK747 := n0_; have HB := n1_; have BK748 := n2_; have GW748 := n3_; have GE748 := n4_; have NB747_748 := n5_; have NB748_747 := n6_; clear n0_ n1_ n2_ n3_ n4_ n5_ n6_; clear hb hbox hg; have hnb11 := NB747_748.out; have hnc11 := NB748_747.out; have hcz12_0 : w10.cell? ⟨gb747, 0, none⟩ = some (.int .i64 a1_0) := bcl BK747 0; have hcz12_1 : w10.cell? ⟨gb747, 1, none⟩ = some (.int .i64 a1_1) := bcl BK747 1; have hcz12_2 : w10.cell? ⟨gb747, 2, none⟩ = some (.int .i64 a1_2) := bcl BK747 2; have hfz12_0 := blk_frozen BK747.out 0; have hfz12_1 := blk_frozen BK747.out 1; have hfz12_2 := blk_frozen BK747.out 2) | ((with_reducible refine gate_callee (f := 43) rfl ?_); refine goesL_ (some 11) rfl rfl Try.func43 (by kernel_rfl) rfl #[.int .i64 a0, .agg #[.int .i64 a1_0, .int .i64 a1_1, .int .i64 a1_2]] rfl (by (try simp only [List.map_toArray, List.map_cons, List.map_nil]); first | done | rfl | (simp only [List.length_drop, List.length_take]; rfl)) ?_; (with_reducible refine (impl_frameCode.calls a0 a1_0 a1_1 a1_2 t749 _ A4.out).mono ?_); rintro e w13 ⟨rfl, hb⟩; refine ⟨_, rfl, ?_⟩; have n0_ := Aside0.mk (bbl BK747 hb); have n1_ := Aside0.mk (bbl BK748 hb); have n2_ := Aside0.mk (bst2 HB GE747 GE748 hb); clear BK747; clear BK748; clear HB; have BK747 := n0_; have BK748 := n1_; have HB := n2_; clear n0_ n1_ n2_; (try clear hb); (try clear hb2); (try clear hk); (try clear hi); have hcz14_0 : w13.cell? ⟨gb747, 0, none⟩ = some (.int .i64 a1_0) := bcl BK747 0; have hcz14_1 : w13.cell? ⟨gb747, 1, none⟩ = some (.int .i64 a1_1) := bcl BK747 1; have hcz14_2 : w13.cell? ⟨gb747, 2, none⟩ = some (.int .i64 a1_2) := bcl BK747 2; have hfz14_0 := blk_frozen BK747.out 0; have hfz14_1 := blk_frozen BK747.out 1; have hfz14_2 := blk_frozen BK747.out 2; have hcz15_0 : w13.cell? ⟨gb748, 0, none⟩ = some (.int .i64 a2_0) := bcl BK748 0; have hcz15_1 : w13.cell? ⟨gb748, 1, none⟩ = some (.int .i64 a2_1) := bcl BK748 1; have hcz15_2 : w13.cell? ⟨gb748, 2, none⟩ = some (.int .i64 a2_2) := bcl BK748 2; have hcz15_3 : w13.cell? ⟨gb748, 3, none⟩ = some (.int .i64 a2_3) := bcl BK748 3; have hcz15_4 : w13.cell? ⟨gb748, 4, none⟩ = some (.int .i64 a2_4) := bcl BK748 4; have hcz15_5 : w13.cell? ⟨gb748, 5, none⟩ = some (.int .i64 a2_5) := bcl BK748 5; have hfz15_0 := blk_frozen BK748.out 0; have hfz15_1 := blk_frozen BK748.out 1; have hfz15_2 := blk_frozen BK748.out 2; have hfz15_3 := blk_frozen BK748.out 3; have hfz15_4 := blk_frozen BK748.out 4; have hfz15_5 := blk_frozen BK748.out 5) | ((with_reducible refine gate_callee (f := 44) rfl ?_); refine goesL_ (some 18) rfl rfl Try.func44 (by kernel_rfl) rfl #[.int .i64 a0, .agg #[.int .i64 a1_0, .int .i64 a1_1, .int .i64 a1_2], .agg #[.int .i64 a2_0, .int .i64 a2_1, .int .i64 a2_2, .int .i64 a2_3, .int .i64 a2_4, .int .i64 a2_5]] rfl (by (try simp only [List.map_toArray, List.map_cons, List.map_nil]); first | done | rfl | (simp only [List.length_drop, List.length_take]; rfl)) ?_; (with_reducible refine (impl_isSuitable.calls k a0 a1_0 a1_1 a1_2 a2_0 a2_1 a2_2 a2_3 a2_4 a2_5 true _ A6.out).mono ?_); rintro e w16 ⟨rfl, hb⟩; refine ⟨_, rfl, ?_⟩; have n0_ := Aside0.mk (bbl BK747 hb); have n1_ := Aside0.mk (bbl BK748 hb); have n2_ := Aside0.mk (bst2 HB GE747 GE748 hb); clear BK747; clear BK748; clear HB; have BK747 := n0_; have BK748 := n1_; have HB := n2_; clear n0_ n1_ n2_; (try clear hb); (try clear hb2); (try clear hk); (try clear hi); have hcz17_0 : w16.cell? ⟨gb747, 0, none⟩ = some (.int .i64 a1_0) := bcl BK747 0; have hcz17_1 : w16.cell? ⟨gb747, 1, none⟩ = some (.int .i64 a1_1) := bcl BK747 1; have hcz17_2 : w16.cell? ⟨gb747, 2, none⟩ = some (.int .i64 a1_2) := bcl BK747 2; have hfz17_0 := blk_frozen BK747.out 0; have hfz17_1 := blk_frozen BK747.out 1; have hfz17_2 := blk_frozen BK747.out 2; have hcz18_0 : w16.cell? ⟨gb748, 0, none⟩ = some (.int .i64 a2_0) := bcl BK748 0; have hcz18_1 : w16.cell? ⟨gb748, 1, none⟩ = some (.int .i64 a2_1) := bcl BK748 1; have hcz18_2 : w16.cell? ⟨gb748, 2, none⟩ = some (.int .i64 a2_2) := bcl BK748 2; have hcz18_3 : w16.cell? ⟨gb748, 3, none⟩ = some (.int .i64 a2_3) := bcl BK748 3; have hcz18_4 : w16.cell? ⟨gb748, 4, none⟩ = some (.int .i64 a2_4) := bcl BK748 4; have hcz18_5 : w16.cell? ⟨gb748, 5, none⟩ = some (.int .i64 a2_5) := bcl BK748 5; have hfz18_0 := blk_frozen BK748.out 0; have hfz18_1 := blk_frozen BK748.out 1; have hfz18_2 := blk_frozen BK748.out 2; have hfz18_3 := blk_frozen BK748.out 3; have hfz18_4 := blk_frozen BK748.out 4; have hfz18_5 := blk_frozen BK748.out 5) | ((with_reducible refine gate_callee (f := 60) rfl ?_); refine goesL_ (some 22) rfl rfl Try.func60 (by kernel_rfl) rfl #[.agg #[.int .i64 a1_0, .int .i64 a1_1, .int .i64 a1_2], .agg #[.int .i64 a2_0, .int .i64 a2_1, .int .i64 a2_2, .int .i64 a2_3, .int .i64 a2_4, .int .i64 a2_5]] rfl (by (try simp only [List.map_toArray, List.map_cons, List.map_nil]); first | done | rfl | (simp only [List.length_drop, List.length_take]; rfl)) ?_; (with_reducible refine (impl_Lattice_mayReflect.calls k a1_0 a1_1 a1_2 a2_0 a2_1 a2_2 a2_3 a2_4 a2_5 t751 _ A8.out).mono ?_); rintro e w19 ⟨rfl, hb⟩; refine ⟨_, rfl, ?_⟩; have n0_ := Aside0.mk (bbl BK747 hb); have n1_ := Aside0.mk (bbl BK748 hb); have n2_ := Aside0.mk (bst2 HB GE747 GE748 hb); clear BK747; clear BK748; clear HB; have BK747 := n0_; have BK748 := n1_; have HB := n2_; clear n0_ n1_ n2_; (try clear hb); (try clear hb2); (try clear hk); (try clear hi)))
   go_ret2
   exact ⟨by first | rfl | (simp [errW_none, errW_some] <;> rfl) | (simp [*, errW_none, errW_some] <;> rfl), bbw2 HB GE747 GE748⟩
  ·replace c7 := Bool.eq_false_iff.mpr c7
   subst c7
   have H1 : (some (false, 2)) = some (r1, r2) := by rw [if_neg (show ¬ (false = true) by decide)] at H; first | done | exact H
   clear H
   have H := H1
   clear H1
   simp only [Option.some.injEq, Prod.mk.injEq] at H
   obtain ⟨rfl, rfl⟩ := H
   go_enter Try.func30, Try.ntmps30
   go_wp2_with (first | ((with_reducible refine gate_dst (N := 4) rfl ?_); refine box_event ?hg (N := 4) ?hd (cs := #[.int .i64 a1_0, .int .i64 a1_1, .int .i64 a1_2]) (t := 31) ?hr ?_; (case hd => rfl); (case hg => rfl); (case hr => first | (go_simp; done) | (go_simp; rfl)); intro gb747 hg w20 hbox hb; have n0_ := Aside0.mk (bst0 HB hb); have n1_ := Aside0.mk (hbox); have n2_ := ngw0 hg HB; have n3_ := n2_; clear HB; have HB := n0_; have BK747 := n1_; have GW747 := n2_; have GE747 := n3_; clear n0_ n1_ n2_ n3_; clear hb hbox hg) | ((with_reducible refine gate_dst (N := 5) rfl ?_); refine box_event ?hg (N := 5) ?hd (cs := #[.int .i64 a2_0, .int .i64 a2_1, .int .i64 a2_2, .int .i64 a2_3, .int .i64 a2_4, .int .i64 a2_5]) (t := 36) ?hr ?_; (case hd => rfl); (case hg => rfl); (case hr => first | (go_simp; done) | (go_simp; rfl)); intro gb748 hg w21 hbox hb; have n0_ := Aside0.mk (bbl BK747 hb); have n1_ := Aside0.mk (bst1 HB GE747 hb); have n2_ := Aside0.mk (hbox); have n3_ := ngw1 hg HB GE747; have n4_ := n3_; have n5_ := nlt hg BK747; have n6_ := nsy (nlt hg BK747); clear BK747; clear HB; have BK747 := n0_; have HB := n1_; have BK748 := n2_; have GW748 := n3_; have GE748 := n4_; have NB747_748 := n5_; have NB748_747 := n6_; clear n0_ n1_ n2_ n3_ n4_ n5_ n6_; clear hb hbox hg; have hnb22 := NB747_748.out; have hnc22 := NB748_747.out; have hcz23_0 : w21.cell? ⟨gb747, 0, none⟩ = some (.int .i64 a1_0) := bcl BK747 0; have hcz23_1 : w21.cell? ⟨gb747, 1, none⟩ = some (.int .i64 a1_1) := bcl BK747 1; have hcz23_2 : w21.cell? ⟨gb747, 2, none⟩ = some (.int .i64 a1_2) := bcl BK747 2; have hfz23_0 := blk_frozen BK747.out 0; have hfz23_1 := blk_frozen BK747.out 1; have hfz23_2 := blk_frozen BK747.out 2) | ((with_reducible refine gate_callee (f := 43) rfl ?_); refine goesL_ (some 11) rfl rfl Try.func43 (by kernel_rfl) rfl #[.int .i64 a0, .agg #[.int .i64 a1_0, .int .i64 a1_1, .int .i64 a1_2]] rfl (by (try simp only [List.map_toArray, List.map_cons, List.map_nil]); first | done | rfl | (simp only [List.length_drop, List.length_take]; rfl)) ?_; (with_reducible refine (impl_frameCode.calls a0 a1_0 a1_1 a1_2 t749 _ A4.out).mono ?_); rintro e w24 ⟨rfl, hb⟩; refine ⟨_, rfl, ?_⟩; have n0_ := Aside0.mk (bbl BK747 hb); have n1_ := Aside0.mk (bbl BK748 hb); have n2_ := Aside0.mk (bst2 HB GE747 GE748 hb); clear BK747; clear BK748; clear HB; have BK747 := n0_; have BK748 := n1_; have HB := n2_; clear n0_ n1_ n2_; (try clear hb); (try clear hb2); (try clear hk); (try clear hi); have hcz25_0 : w24.cell? ⟨gb747, 0, none⟩ = some (.int .i64 a1_0) := bcl BK747 0; have hcz25_1 : w24.cell? ⟨gb747, 1, none⟩ = some (.int .i64 a1_1) := bcl BK747 1; have hcz25_2 : w24.cell? ⟨gb747, 2, none⟩ = some (.int .i64 a1_2) := bcl BK747 2; have hfz25_0 := blk_frozen BK747.out 0; have hfz25_1 := blk_frozen BK747.out 1; have hfz25_2 := blk_frozen BK747.out 2; have hcz26_0 : w24.cell? ⟨gb748, 0, none⟩ = some (.int .i64 a2_0) := bcl BK748 0; have hcz26_1 : w24.cell? ⟨gb748, 1, none⟩ = some (.int .i64 a2_1) := bcl BK748 1; have hcz26_2 : w24.cell? ⟨gb748, 2, none⟩ = some (.int .i64 a2_2) := bcl BK748 2; have hcz26_3 : w24.cell? ⟨gb748, 3, none⟩ = some (.int .i64 a2_3) := bcl BK748 3; have hcz26_4 : w24.cell? ⟨gb748, 4, none⟩ = some (.int .i64 a2_4) := bcl BK748 4; have hcz26_5 : w24.cell? ⟨gb748, 5, none⟩ = some (.int .i64 a2_5) := bcl BK748 5; have hfz26_0 := blk_frozen BK748.out 0; have hfz26_1 := blk_frozen BK748.out 1; have hfz26_2 := blk_frozen BK748.out 2; have hfz26_3 := blk_frozen BK748.out 3; have hfz26_4 := blk_frozen BK748.out 4; have hfz26_5 := blk_frozen BK748.out 5) | ((with_reducible refine gate_callee (f := 44) rfl ?_); refine goesL_ (some 18) rfl rfl Try.func44 (by kernel_rfl) rfl #[.int .i64 a0, .agg #[.int .i64 a1_0, .int .i64 a1_1, .int .i64 a1_2], .agg #[.int .i64 a2_0, .int .i64 a2_1, .int .i64 a2_2, .int .i64 a2_3, .int .i64 a2_4, .int .i64 a2_5]] rfl (by (try simp only [List.map_toArray, List.map_cons, List.map_nil]); first | done | rfl | (simp only [List.length_drop, List.length_take]; rfl)) ?_; (with_reducible refine (impl_isSuitable.calls k a0 a1_0 a1_1 a1_2 a2_0 a2_1 a2_2 a2_3 a2_4 a2_5 false _ A6.out).mono ?_); rintro e w27 ⟨rfl, hb⟩; refine ⟨_, rfl, ?_⟩; have n0_ := Aside0.mk (bbl BK747 hb); have n1_ := Aside0.mk (bbl BK748 hb); have n2_ := Aside0.mk (bst2 HB GE747 GE748 hb); clear BK747; clear BK748; clear HB; have BK747 := n0_; have BK748 := n1_; have HB := n2_; clear n0_ n1_ n2_; (try clear hb); (try clear hb2); (try clear hk); (try clear hi)))
   go_ret2
   exact ⟨by first | rfl | (simp [errW_none, errW_some] <;> rfl) | (simp [*, errW_none, errW_some] <;> rfl), bbw2 HB GE747 GE748⟩
 ·rw [if_neg c5] at H
  have c5b0 : (t749 == 0) = false := beq_eq_false_iff_ne.mpr c5
  have c5b1 : (t749 != 0) = true := bne_iff_ne.mpr c5
  simp only [Option.some.injEq, Prod.mk.injEq] at H
  obtain ⟨rfl, rfl⟩ := H
  go_enter Try.func30, Try.ntmps30
  go_wp2_with (first | ((with_reducible refine gate_dst (N := 4) rfl ?_); refine box_event ?hg (N := 4) ?hd (cs := #[.int .i64 a1_0, .int .i64 a1_1, .int .i64 a1_2]) (t := 31) ?hr ?_; (case hd => rfl); (case hg => rfl); (case hr => first | (go_simp; done) | (go_simp; rfl)); intro gb747 hg w28 hbox hb; have n0_ := Aside0.mk (bst0 HB hb); have n1_ := Aside0.mk (hbox); have n2_ := ngw0 hg HB; have n3_ := n2_; clear HB; have HB := n0_; have BK747 := n1_; have GW747 := n2_; have GE747 := n3_; clear n0_ n1_ n2_ n3_; clear hb hbox hg) | ((with_reducible refine gate_dst (N := 5) rfl ?_); refine box_event ?hg (N := 5) ?hd (cs := #[.int .i64 a2_0, .int .i64 a2_1, .int .i64 a2_2, .int .i64 a2_3, .int .i64 a2_4, .int .i64 a2_5]) (t := 36) ?hr ?_; (case hd => rfl); (case hg => rfl); (case hr => first | (go_simp; done) | (go_simp; rfl)); intro gb748 hg w29 hbox hb; have n0_ := Aside0.mk (bbl BK747 hb); have n1_ := Aside0.mk (bst1 HB GE747 hb); have n2_ := Aside0.mk (hbox); have n3_ := ngw1 hg HB GE747; have n4_ := n3_; have n5_ := nlt hg BK747; have n6_ := nsy (nlt hg BK747); clear BK747; clear HB; have BK747 := n0_; have HB := n1_; have BK748 := n2_; have GW748 := n3_; have GE748 := n4_; have NB747_748 := n5_; have NB748_747 := n6_; clear n0_ n1_ n2_ n3_ n4_ n5_ n6_; clear hb hbox hg; have hnb30 := NB747_748.out; have hnc30 := NB748_747.out; have hcz31_0 : w29.cell? ⟨gb747, 0, none⟩ = some (.int .i64 a1_0) := bcl BK747 0; have hcz31_1 : w29.cell? ⟨gb747, 1, none⟩ = some (.int .i64 a1_1) := bcl BK747 1; have hcz31_2 : w29.cell? ⟨gb747, 2, none⟩ = some (.int .i64 a1_2) := bcl BK747 2; have hfz31_0 := blk_frozen BK747.out 0; have hfz31_1 := blk_frozen BK747.out 1; have hfz31_2 := blk_frozen BK747.out 2) | ((with_reducible refine gate_callee (f := 43) rfl ?_); refine goesL_ (some 11) rfl rfl Try.func43 (by kernel_rfl) rfl #[.int .i64 a0, .agg #[.int .i64 a1_0, .int .i64 a1_1, .int .i64 a1_2]] rfl (by (try simp only [List.map_toArray, List.map_cons, List.map_nil]); first | done | rfl | (simp only [List.length_drop, List.length_take]; rfl)) ?_; (with_reducible refine (impl_frameCode.calls a0 a1_0 a1_1 a1_2 t749 _ A4.out).mono ?_); rintro e w32 ⟨rfl, hb⟩; refine ⟨_, rfl, ?_⟩; have n0_ := Aside0.mk (bbl BK747 hb); have n1_ := Aside0.mk (bbl BK748 hb); have n2_ := Aside0.mk (bst2 HB GE747 GE748 hb); clear BK747; clear BK748; clear HB; have BK747 := n0_; have BK748 := n1_; have HB := n2_; clear n0_ n1_ n2_; (try clear hb); (try clear hb2); (try clear hk); (try clear hi)))
  go_ret2
  exact ⟨by first | rfl | (simp [errW_none, errW_some] <;> rfl) | (simp [*, errW_none, errW_some] <;> rfl), bbw2 HB GE747 GE748⟩

/-! ### laws_FnExactMayReflect: function 8 -/
def laws_FnExactMayReflect.f (k : Nat) (a0 : Int) (a1_0 : Int) (a1_1 : Int) (a1_2 : Int) (a2_0 : Int) (a2_1 : Int) (a2_2 : Int) (a2_3 : Int) (a2_4 : Int) (a2_5 : Int) : Option (Bool) := (laws_toLattice.f a1_0 a1_1 a1_2).bind fun bt754 => ((laws_toMotion.f a2_0 a2_1 a2_2 a2_3 a2_4 a2_5).bind fun bt757 => ((spec_MayReflect.f k a0 bt754.1 bt754.2.1 bt754.2.2 bt757.1 bt757.2.1 bt757.2.2.1 bt757.2.2.2.1 bt757.2.2.2.2.1 bt757.2.2.2.2.2).bind fun bt763 => ((laws_toLattice.f a1_0 a1_1 a1_2).bind fun bt765 => ((laws_toMotion.f a2_0 a2_1 a2_2 a2_3 a2_4 a2_5).bind fun bt768 => ((impl_MayReflect.f k a0 bt765.1 bt765.2.1 bt765.2.2 bt768.1 bt768.2.1 bt768.2.2.1 bt768.2.2.2.1 bt768.2.2.2.2.1 bt768.2.2.2.2.2).bind fun bt774 => (if (bt774.1 != bt763.1) = true then (some false) else (if bt774.2 = bt763.2 then (some true) else (some false))))))))
def laws_FnExactMayReflect.T1 : Bool × List (List Nat × List Nat) := (true, [([], []), ([], []), ([1], [1]), ([], []), ([3, 2], [3]), ([0, 2, 4, 4], [0, 2, 4]), ([5], [5]), ([6], [6]), ([6], [6]), ([7, 5, 0, 1, 2, 3, 4, 5, 6, 7], [7]), ([8, 9, 0, 1, 2, 3, 4, 5, 6, 7, 8, 9], [8])])
def laws_FnExactMayReflect.B1 : List Nat := [0, 0, 2, 0, 14, 31, 63, 127, 127, 255, 1023]
theorem laws_FnExactMayReflect.tab1 : rtab .any (opsOf Try.f8 1) = laws_FnExactMayReflect.T1 := by kernel_rfl
theorem laws_FnExactMayReflect.bits1 : waitsOk laws_FnExactMayReflect.T1.2 laws_FnExactMayReflect.B1 = true := by kernel_rfl
def laws_FnExactMayReflect.T2 : Bool × List (List Nat × List Nat) := (true, [([], []), ([], []), ([1], [1]), ([], []), ([3, 2], [3]), ([0, 2, 4, 4], [0, 2, 4]), ([5], [5]), ([6], [6]), ([6], [6]), ([7, 5, 0, 1, 2, 3, 4, 5, 6, 7], [7]), ([8, 9, 0, 1, 2, 3, 4, 5, 6, 7, 8, 9], [8])])
def laws_FnExactMayReflect.B2 : List Nat := [0, 0, 2, 0, 14, 31, 63, 127, 127, 255, 1023]
theorem laws_FnExactMayReflect.tab2 : rtab .any (opsOf Try.f8 2) = laws_FnExactMayReflect.T2 := by kernel_rfl
theorem laws_FnExactMayReflect.bits2 : waitsOk laws_FnExactMayReflect.T2.2 laws_FnExactMayReflect.B2 = true := by kernel_rfl
set_option maxHeartbeats 8000000 in
set_option maxRecDepth 100000 in
theorem laws_FnExactMayReflect.calls (k : Nat) (a0 : Int) (a1_0 : Int) (a1_1 : Int) (a1_2 : Int) (a2_0 : Int) (a2_1 : Int) (a2_2 : Int) (a2_3 : Int) (a2_4 : Int) (a2_5 : Int) (w : World) (h : laws_FnExactMayReflect.f k a0 a1_0 a1_1 a1_2 a2_0 a2_1 a2_2 a2_3 a2_4 a2_5 = some true) :
  Calls Try.prog 8 #[.int .i64 a0, .agg #[.int .i64 a1_0, .int .i64 a1_1, .int .i64 a1_2], .agg #[.int .i64 a2_0, .int .i64 a2_1, .int .i64 a2_2, .int .i64 a2_3, .int .i64 a2_4, .int .i64 a2_5]] w fun e w' => e = .returned (.bool true) ∧ Below w.heap.size w w' := by
 have hu23 := Try.underlying23
 have hu29 := Try.underlying29
 have HB := Aside0.mk (Below.refl w.heap.size w)
 have H : ((laws_toLattice.f a1_0 a1_1 a1_2).bind fun bt754 => ((laws_toMotion.f a2_0 a2_1 a2_2 a2_3 a2_4 a2_5).bind fun bt757 => ((spec_MayReflect.f k a0 bt754.1 bt754.2.1 bt754.2.2 bt757.1 bt757.2.1 bt757.2.2.1 bt757.2.2.2.1 bt757.2.2.2.2.1 bt757.2.2.2.2.2).bind fun bt763 => ((laws_toLattice.f a1_0 a1_1 a1_2).bind fun bt765 => ((laws_toMotion.f a2_0 a2_1 a2_2 a2_3 a2_4 a2_5).bind fun bt768 => ((impl_MayReflect.f k a0 bt765.1 bt765.2.1 bt765.2.2 bt768.1 bt768.2.1 bt768.2.2.1 bt768.2.2.2.1 bt768.2.2.2.2.1 bt768.2.2.2.2.2).bind fun bt774 => (if (bt774.1 != bt763.1) = true then (some false) else (if bt774.2 = bt763.2 then (some true) else (some false))))))))) = some true := h
 clear h
 replace H := Option.bind_eq_some_iff.mp H
 obtain ⟨⟨t754, t755, t756⟩, A40, H⟩ := H
 replace H : ((laws_toMotion.f a2_0 a2_1 a2_2 a2_3 a2_4 a2_5).bind fun bt757 => ((spec_MayReflect.f k a0 t754 t755 t756 bt757.1 bt757.2.1 bt757.2.2.1 bt757.2.2.2.1 bt757.2.2.2.2.1 bt757.2.2.2.2.2).bind fun bt763 => ((laws_toLattice.f a1_0 a1_1 a1_2).bind fun bt765 => ((laws_toMotion.f a2_0 a2_1 a2_2 a2_3 a2_4 a2_5).bind fun bt768 => ((impl_MayReflect.f k a0 bt765.1 bt765.2.1 bt765.2.2 bt768.1 bt768.2.1 bt768.2.2.1 bt768.2.2.2.1 bt768.2.2.2.2.1 bt768.2.2.2.2.2).bind fun bt774 => (if (bt774.1 != bt763.1) = true then (some false) else (if bt774.2 = bt763.2 then (some true) else (some false)))))))) = some true := H
 have A4 := Aside0.mk A40
 clear A40
 replace H := Option.bind_eq_some_iff.mp H
 obtain ⟨⟨t757, t758, t759, t760, t761, t762⟩, A50, H⟩ := H
 replace H : ((spec_MayReflect.f k a0 t754 t755 t756 t757 t758 t759 t760 t761 t762).bind fun bt763 => ((laws_toLattice.f a1_0 a1_1 a1_2).bind fun bt765 => ((laws_toMotion.f a2_0 a2_1 a2_2 a2_3 a2_4 a2_5).bind fun bt768 => ((impl_MayReflect.f k a0 bt765.1 bt765.2.1 bt765.2.2 bt768.1 bt768.2.1 bt768.2.2.1 bt768.2.2.2.1 bt768.2.2.2.2.1 bt768.2.2.2.2.2).bind fun bt774 => (if (bt774.1 != bt763.1) = true then (some false) else (if bt774.2 = bt763.2 then (some true) else (some false))))))) = some true := H
 have A5 := Aside0.mk A50
 clear A50
 replace H := Option.bind_eq_some_iff.mp H
 obtain ⟨⟨t763, t764⟩, A60, H⟩ := H
 replace H : ((laws_toLattice.f a1_0 a1_1 a1_2).bind fun bt765 => ((laws_toMotion.f a2_0 a2_1 a2_2 a2_3 a2_4 a2_5).bind fun bt768 => ((impl_MayReflect.f k a0 bt765.1 bt765.2.1 bt765.2.2 bt768.1 bt768.2.1 bt768.2.2.1 bt768.2.2.2.1 bt768.2.2.2.2.1 bt768.2.2.2.2.2).bind fun bt774 => (if (bt774.1 != t763) = true then (some false) else (if bt774.2 = t764 then (some true) else (some false)))))) = some true := H
 have A6 := Aside0.mk A60
 clear A60
 replace H := Option.bind_eq_some_iff.mp H
 obtain ⟨⟨t765, t766, t767⟩, A70, H⟩ := H
 replace H : ((laws_toMotion.f a2_0 a2_1 a2_2 a2_3 a2_4 a2_5).bind fun bt768 => ((impl_MayReflect.f k a0 t765 t766 t767 bt768.1 bt768.2.1 bt768.2.2.1 bt768.2.2.2.1 bt768.2.2.2.2.1 bt768.2.2.2.2.2).bind fun bt774 => (if (bt774.1 != t763) = true then (some false) else (if bt774.2 = t764 then (some true) else (some false))))) = some true := H
 have A7 := Aside0.mk A70
 clear A70
 replace H := Option.bind_eq_some_iff.mp H
 obtain ⟨⟨t768, t769, t770, t771, t772, t773⟩, A80, H⟩ := H
 replace H : ((impl_MayReflect.f k a0 t765 t766 t767 t768 t769 t770 t771 t772 t773).bind fun bt774 => (if (bt774.1 != t763) = true then (some false) else (if bt774.2 = t764 then (some true) else (some false)))) = some true := H
 have A8 := Aside0.mk A80
 clear A80
 replace H := Option.bind_eq_some_iff.mp H
 obtain ⟨⟨t774, t775⟩, A90, H⟩ := H
 replace H : (if (t774 != t763) = true then (some false) else (if t775 = t764 then (some true) else (some false))) = some true := H
 have A9 := Aside0.mk A90
 clear A90
 by_cases c10 : (t774 != t763) = true
 ·rw [if_pos c10] at H
  have c10b0 : (t774 != t763) = true := c10
  (try (have c10b1 : decide (t774 = t763) = false := by simpa using c10))
  (try (have c10b2 : (t774 == t763) = false := by simpa using c10))
  (try (have c10b3 : ¬ (t774 = t763) := by simpa using c10))
  clear c10
  exact absurd H (by simp)
 ·rw [if_neg c10] at H
  have c10b0 : (t774 != t763) = false := by simpa using c10
  (try (have c10b1 : decide (t774 = t763) = true := by simpa using c10))
  (try (have c10b2 : (t774 == t763) = true := by simpa using c10))
  clear c10
  by_cases c11 : t775 = t764
  ·rw [if_pos c11] at H
   have c11b0 : (t775 == t764) = true := beq_iff_eq.mpr c11
   have c11b1 : (t775 != t764) = false := bne_eq_false_iff_eq.mpr c11
   clear c11
   clear H
   go_enter Try.func8, Try.ntmps8
   try go_wp2_with (first | ((with_reducible refine gate_dst (N := 4) rfl ?_); refine box_event ?hg (N := 4) ?hd (cs := #[.int .i64 a1_0, .int .i64 a1_1, .int .i64 a1_2]) (t := 23) ?hr ?_; (case hd => rfl); (case hg => rfl); (case hr => first | (go_simp; done) | (go_simp; rfl)); intro gb752 hg w12 hbox hb; have n0_ := Aside0.mk (bst0 HB hb); have n1_ := Aside0.mk (hbox); have n2_ := ngw0 hg HB; have n3_ := n2_; clear HB; have HB := n0_; have BK752 := n1_; have GW752 := n2_; have GE752 := n3_; clear n0_ n1_ n2_ n3_; clear hb hbox hg) | ((with_reducible refine gate_dst (N := 5) rfl ?_); refine box_event ?hg (N := 5) ?hd (cs := #[.int .i64 a2_0, .int .i64 a2_1, .int .i64 a2_2, .int .i64 a2_3, .int .i64 a2_4, .int .i64 a2_5]) (t := 29) ?hr ?_; (case hd => rfl); (case hg => rfl); (case hr => first | (go_simp; done) | (go_simp; rfl)); intro gb753 hg w13 hbox hb; have n0_ := Aside0.mk (bbl BK752 hb); have n1_ := Aside0.mk (bst1 HB GE752 hb); have n2_ := Aside0.mk (hbox); have n3_ := ngw1 hg HB GE752; have n4_ := n3_; have n5_ := nlt hg BK752; have n6_ := nsy (nlt hg BK752); clear BK752; clear HB; have BK752 := n0_; have HB := n1_; have BK753 := n2_; have GW753 := n3_; have GE753 := n4_; have NB752_753 := n5_; have NB753_752 := n6_; clear n0_ n1_ n2_ n3_ n4_ n5_ n6_; clear hb hbox hg))
   have n0_ := Aside0.mk (blk_drew BK752.out)
   have n1_ := Aside0.mk (blk_drew BK753.out)
   have n2_ := Aside0.mk (below_drew1 HB.out)
   clear BK752
   clear BK753
   clear HB
   have BK752 := n0_
   have BK753 := n1_
   have HB := n2_
   clear n0_ n1_ n2_
   refine start_ (n := 11) (S := fun w' => w'.cell? ⟨gb752, 0, none⟩ = some (.int .i64 a1_0) ∧ w'.cell? ⟨gb752, 1, none⟩ = some (.int .i64 a1_1) ∧ w'.cell? ⟨gb752, 2, none⟩ = some (.int .i64 a1_2) ∧ w'.cell? ⟨gb753, 0, none⟩ = some (.int .i64 a2_0) ∧ w'.cell? ⟨gb753, 1, none⟩ = some (.int .i64 a2_1) ∧ w'.cell? ⟨gb753, 2, none⟩ = some (.int .i64 a2_2) ∧ w'.cell? ⟨gb753, 3, none⟩ = some (.int .i64 a2_3) ∧ w'.cell? ⟨gb753, 4, none⟩ = some (.int .i64 a2_4) ∧ w'.cell? ⟨gb753, 5, none⟩ = some (.int .i64 a2_5)) (ds := []) #[false, false, false, false, false, false, false, false, false, false, false] (by kernel_rfl) rfl rfl ⟨bcl BK752 0, bcl BK752 1, bcl BK752 2, bcl BK753 0, bcl BK753 1, bcl BK753 2, bcl BK753 3, bcl BK753 4, bcl BK753 5⟩ (fun hHeld => ?_); refine with_tabW laws_FnExactMayReflect.tab1 laws_FnExactMayReflect.bits1 (fun HT_ HW_ => ?_)
   generalize w13.drew = w14 at BK752 BK753 HB hHeld ⊢
   refine pure_ (i := 0) (N := some 12) (v := ?_) (a' := ?_) #[true, false, false, false, false, false, false, false, false, false, false] rfl rfl (any_of HT_.out (by kernel_rfl)) (fun _ _ _ h => h) (Or.inl ⟨by rfl, ?_⟩) ?_ ?_
   rotate_left
   ·intro w'
    go_simp
    with_reducible rfl
   rotate_left
   ·simp only [Act.put, sA, sB, sC, i64_w, i32_w]
    rfl
   refine take_ (i := 1) (N := some 13) (v := ?_) (a' := ?_) #[true, true, false, false, false, false, false, false, false, false, false] rfl rfl (take_ofW HT_.out HW_.out (by kernel_rfl)) (fun _ _ _ h => h) (Or.inl ⟨by rfl, ?_⟩) hHeld ?_ ?_
   rotate_left
   ·rintro w' ⟨s0, s1, s2, s3, s4, s5, s6, s7, s8⟩
    go_simp
    with_reducible rfl
   rotate_left
   ·simp only [Act.put, sA, sB, sC, i64_w, i32_w]
    rfl
   refine take_ (i := 3) (N := some 15) (v := ?_) (a' := ?_) #[true, true, false, true, false, false, false, false, false, false, false] rfl rfl (take_ofW HT_.out HW_.out (by kernel_rfl)) (fun _ _ _ h => h) (Or.inl ⟨by rfl, ?_⟩) hHeld ?_ ?_
   rotate_left
   ·rintro w' ⟨s0, s1, s2, s3, s4, s5, s6, s7, s8⟩
    go_simp
    with_reducible rfl
   rotate_left
   ·simp only [Act.put, sA, sB, sC, i64_w, i32_w]
    rfl
   refine one_ (i := 2) (N := some 14) #[true, true, true, true, false, false, false, false, false, false, false] rfl rfl (one_of HT_.out (by kernel_rfl)) (by decide) (fun K hK => ?_)
   refine goes_ Try.func12 (by kernel_rfl) rfl #[.agg #[.int .i64 a1_0, .int .i64 a1_1, .int .i64 a1_2]] (by rfl) rfl rfl (by (try simp only [List.map_toArray, List.map_cons, List.map_nil]); first | done | rfl | (simp only [List.length_drop, List.length_take]; rfl)) ?_
   with_reducible refine (laws_toLattice.calls a1_0 a1_1 a1_2 t754 t755 t756 _ A4.out).mono ?_
   rintro e w15 ⟨rfl, hb⟩
   refine ⟨_, rfl, ?_⟩
   have n0_ := Aside0.mk (bbl BK752 hb)
   have n1_ := Aside0.mk (bbl BK753 hb)
   have n2_ := Aside0.mk (bst2 HB GE752 GE753 hb)
   clear BK752
   clear BK753
   clear HB
   have BK752 := n0_
   have BK753 := n1_
   have HB := n2_
   clear n0_ n1_ n2_
   (try clear hb)
   (try clear hb2)
   (try clear hk)
   (try clear hi)
   refine hK.out _ _ ⟨bcl BK752 0, bcl BK752 1, bcl BK752 2, bcl BK753 0, bcl BK753 1, bcl BK753 2, bcl BK753 3, bcl BK753 4, bcl BK753 5⟩ (fun hHeld => ?_)
   clear hK K
   refine norm_ (a' := ?_) ?_ ?_
   rotate_left
   ·show Act.put _ (some 14) _ = _
    simp only [Act.put, sA, sB, sC, i64_w, i32_w]
    rfl
   refine one_ (i := 4) (N := some 16) #[true, true, true, true, true, false, false, false, false, false, false] rfl rfl (one_of HT_.out (by kernel_rfl)) (by decide) (fun K hK => ?_)
   refine goes_ Try.func13 (by kernel_rfl) rfl #[.agg #[.int .i64 a2_0, .int .i64 a2_1, .int .i64 a2_2, .int .i64 a2_3, .int .i64 a2_4, .int .i64 a2_5]] (by rfl) rfl rfl (by (try simp only [List.map_toArray, List.map_cons, List.map_nil]); first | done | rfl | (simp only [List.length_drop, List.length_take]; rfl)) ?_
   with_reducible refine (laws_toMotion.calls a2_0 a2_1 a2_2 a2_3 a2_4 a2_5 t757 t758 t759 t760 t761 t762 _ A5.out).mono ?_
   rintro e w16 ⟨rfl, hb⟩
   refine ⟨_, rfl, ?_⟩
   have n0_ := Aside0.mk (bbl BK752 hb)
   have n1_ := Aside0.mk (bbl BK753 hb)
   have n2_ := Aside0.mk (bst2 HB GE752 GE753 hb)
   clear BK752
   clear BK753
   clear HB
   have BK752 := n0_
   have BK753 := n1_
   have HB := n2_
   clear n0_ n1_ n2_
   (try clear hb)
   (try clear hb2)
   (try clear hk)
   (try clear hi)
   refine hK.out _ _ ⟨bcl BK752 0, bcl BK752 1, bcl BK752 2, bcl BK753 0, bcl BK753 1, bcl BK753 2, bcl BK753 3, bcl BK753 4, bcl BK753 5⟩ (fun hHeld => ?_)
   clear hK K
   refine norm_ (a' := ?_) ?_ ?_
   rotate_left
   ·show Act.put _ (some 16) _ = _
    simp only [Act.put, sA, sB, sC, i64_w, i32_w]
    rfl
   refine one_ (i := 5) (N := some 17) #[true, true, true, true, true, true, false, false, false, false, false] rfl rfl (one_of HT_.out (by kernel_rfl)) (by decide) (fun K hK => ?_)
   refine goes_ Try.func29 (by kernel_rfl) rfl #[.int .i64 a0, .agg #[.int .i64 t754, .int .i64 t755, .int .i64 t756], .agg #[.int .i64 t757, .int .i64 t758, .int .i64 t759, .int .i64 t760, .int .i64 t761, .int .i64 t762]] (by rfl) rfl rfl (by (try simp only [List.map_toArray, List.map_cons, List.map_nil]); first | done | rfl | (simp only [List.length_drop, List.length_take]; rfl)) ?_
   with_reducible refine (spec_MayReflect.calls k a0 t754 t755 t756 t757 t758 t759 t760 t761 t762 t763 t764 _ A6.out).mono ?_
   rintro e w17 ⟨rfl, hb⟩
   refine ⟨_, rfl, ?_⟩
   have n0_ := Aside0.mk (bbl BK752 hb)
   have n1_ := Aside0.mk (bbl BK753 hb)
   have n2_ := Aside0.mk (bst2 HB GE752 GE753 hb)
   clear BK752
   clear BK753
   clear HB
   have BK752 := n0_
   have BK753 := n1_
   have HB := n2_
   clear n0_ n1_ n2_
   (try clear hb)
   (try clear hb2)
   (try clear hk)
   (try clear hi)
   refine hK.out _ _ ⟨bcl BK752 0, bcl BK752 1, bcl BK752 2, bcl BK753 0, bcl BK753 1, bcl BK753 2, bcl BK753 3, bcl BK753 4, bcl BK753 5⟩ (fun hHeld => ?_)
   clear hK K
   refine norm_ (a' := ?_) ?_ ?_
   rotate_left
   ·show Act.put _ (some 17) _ = _
    simp only [Act.put, sA, sB, sC, i64_w, i32_w]
    rfl
   refine pure_ (i := 6) (N := some 11) (v := ?_) (a' := ?_) #[true, true, true, true, true, true, true, false, false, false, false] rfl rfl (any_of HT_.out (by kernel_rfl)) (fun _ _ _ h => h) (Or.inl ⟨by rfl, ?_⟩) ?_ ?_
   rotate_left
   ·intro w'
    go_simp
    with_reducible rfl
   rotate_left
   ·simp only [Act.put, sA, sB, sC, i64_w, i32_w]
    rfl
   refine pure_ (i := 7) (N := some 18) (v := ?_) (a' := ?_) #[true, true, true, true, true, true, true, true, false, false, false] rfl rfl (any_of HT_.out (by kernel_rfl)) (fun _ _ _ h => h) (Or.inl ⟨by rfl, ?_⟩) ?_ ?_
   rotate_left
   ·intro w'
    go_simp
    with_reducible rfl
   rotate_left
   ·simp only [Act.put, sA, sB, sC, i64_w, i32_w]
    rfl
   refine pure_ (i := 8) (N := some 19) (v := ?_) (a' := ?_) #[true, true, true, true, true, true, true, true, true, false, false] rfl rfl (any_of HT_.out (by kernel_rfl)) (fun _ _ _ h => h) (Or.inl ⟨by rfl, ?_⟩) ?_ ?_
   rotate_left
   ·intro w'
    go_simp
    with_reducible rfl
   rotate_left
   ·simp only [Act.put, sA, sB, sC, i64_w, i32_w]
    rfl
   refine pure_ (i := 9) (N := some 7) (v := ?_) (a' := ?_) #[true, true, true, true, true, true, true, true, true, true, false] rfl rfl (any_of HT_.out (by kernel_rfl)) (fun _ _ _ h => h) (Or.inl ⟨by rfl, ?_⟩) ?_ ?_
   rotate_left
   ·intro w'
    go_simp
    with_reducible rfl
   rotate_left
   ·simp only [Act.put, sA, sB, sC, i64_w, i32_w]
    rfl
   refine pure_ (i := 10) (N := some 8) (v := ?_) (a' := ?_) #[true, true, true, true, true, true, true, true, true, true, true] rfl rfl (any_of HT_.out (by kernel_rfl)) (fun _ _ _ h => h) (Or.inl ⟨by rfl, ?_⟩) ?_ ?_
   rotate_left
   ·intro w'
    go_simp
    with_reducible rfl
   rotate_left
   ·simp only [Act.put, sA, sB, sC, i64_w, i32_w]
    rfl
   refine done_ (done_of HT_.out (by kernel_rfl)) ?_
   try go_wp2
   have n0_ := Aside0.mk (blk_drew BK752.out)
   have n1_ := Aside0.mk (blk_drew BK753.out)
   have n2_ := Aside0.mk (below_drew1 HB.out)
   clear BK752
   clear BK753
   clear HB
   have BK752 := n0_
   have BK753 := n1_
   have HB := n2_
   clear n0_ n1_ n2_
   refine start_ (n := 11) (S := fun w' => w'.cell? ⟨gb752, 0, none⟩ = some (.int .i64 a1_0) ∧ w'.cell? ⟨gb752, 1, none⟩ = some (.int .i64 a1_1) ∧ w'.cell? ⟨gb752, 2, none⟩ = some (.int .i64 a1_2) ∧ w'.cell? ⟨gb753, 0, none⟩ = some (.int .i64 a2_0) ∧ w'.cell? ⟨gb753, 1, none⟩ = some (.int .i64 a2_1) ∧ w'.cell? ⟨gb753, 2, none⟩ = some (.int .i64 a2_2) ∧ w'.cell? ⟨gb753, 3, none⟩ = some (.int .i64 a2_3) ∧ w'.cell? ⟨gb753, 4, none⟩ = some (.int .i64 a2_4) ∧ w'.cell? ⟨gb753, 5, none⟩ = some (.int .i64 a2_5)) (ds := []) #[false, false, false, false, false, false, false, false, false, false, false] (by kernel_rfl) rfl rfl ⟨bcl BK752 0, bcl BK752 1, bcl BK752 2, bcl BK753 0, bcl BK753 1, bcl BK753 2, bcl BK753 3, bcl BK753 4, bcl BK753 5⟩ (fun hHeld => ?_); refine with_tabW laws_FnExactMayReflect.tab2 laws_FnExactMayReflect.bits2 (fun HT_ HW_ => ?_)
   generalize w17.drew = w18 at BK752 BK753 HB hHeld ⊢
   refine pure_ (i := 0) (N := some 21) (v := ?_) (a' := ?_) #[true, false, false, false, false, false, false, false, false, false, false] rfl rfl (any_of HT_.out (by kernel_rfl)) (fun _ _ _ h => h) (Or.inl ⟨by rfl, ?_⟩) ?_ ?_
   rotate_left
   ·intro w'
    go_simp
    with_reducible rfl
   rotate_left
   ·simp only [Act.put, sA, sB, sC, i64_w, i32_w]
    rfl
   refine take_ (i := 1) (N := some 22) (v := ?_) (a' := ?_) #[true, true, false, false, false, false, false, false, false, false, false] rfl rfl (take_ofW HT_.out HW_.out (by kernel_rfl)) (fun _ _ _ h => h) (Or.inl ⟨by rfl, ?_⟩) hHeld ?_ ?_
   rotate_left
   ·rintro w' ⟨s0, s1, s2, s3, s4, s5, s6, s7, s8⟩
    go_simp
    with_reducible rfl
   rotate_left
   ·simp only [Act.put, sA, sB, sC, i64_w, i32_w]
    rfl
   refine take_ (i := 3) (N := some 24) (v := ?_) (a' := ?_) #[true, true, false, true, false, false, false, false, false, false, false] rfl rfl (take_ofW HT_.out HW_.out (by kernel_rfl)) (fun _ _ _ h => h) (Or.inl ⟨by rfl, ?_⟩) hHeld ?_ ?_
   rotate_left
   ·rintro w' ⟨s0, s1, s2, s3, s4, s5, s6, s7, s8⟩
    go_simp
    with_reducible rfl
   rotate_left
   ·simp only [Act.put, sA, sB, sC, i64_w, i32_w]
    rfl
   refine one_ (i := 2) (N := some 23) #[true, true, true, true, false, false, false, false, false, false, false] rfl rfl (one_of HT_.out (by kernel_rfl)) (by decide) (fun K hK => ?_)
   refine goes_ Try.func12 (by kernel_rfl) rfl #[.agg #[.int .i64 a1_0, .int .i64 a1_1, .int .i64 a1_2]] (by rfl) rfl rfl (by (try simp only [List.map_toArray, List.map_cons, List.map_nil]); first | done | rfl | (simp only [List.length_drop, List.length_take]; rfl)) ?_
   with_reducible refine (laws_toLattice.calls a1_0 a1_1 a1_2 t765 t766 t767 _ A7.out).mono ?_
   rintro e w19 ⟨rfl, hb⟩
   refine ⟨_, rfl, ?_⟩
   have n0_ := Aside0.mk (bbl BK752 hb)
   have n1_ := Aside0.mk (bbl BK753 hb)
   have n2_ := Aside0.mk (bst2 HB GE752 GE753 hb)
   clear BK752
   clear BK753
   clear HB
   have BK752 := n0_
   have BK753 := n1_
   have HB := n2_
   clear n0_ n1_ n2_
   (try clear hb)
   (try clear hb2)
   (try clear hk)
   (try clear hi)
   refine hK.out _ _ ⟨bcl BK752 0, bcl BK752 1, bcl BK752 2, bcl BK753 0, bcl BK753 1, bcl BK753 2, bcl BK753 3, bcl BK753 4, bcl BK753 5⟩ (fun hHeld => ?_)
   clear hK K
   refine norm_ (a' := ?_) ?_ ?_
   rotate_left
   ·show Act.put _ (some 23) _ = _
    simp only [Act.put, sA, sB, sC, i64_w, i32_w]
    rfl
   refine one_ (i := 4) (N := some 25) #[true, true, true, true, true, false, false, false, false, false, false] rfl rfl (one_of HT_.out (by kernel_rfl)) (by decide) (fun K hK => ?_)
   refine goes_ Try.func13 (by kernel_rfl) rfl #[.agg #[.int .i64 a2_0, .int .i64 a2_1, .int .i64 a2_2, .int .i64 a2_3, .int .i64 a2_4, .int .i64 a2_5]] (by rfl) rfl rfl (by (try simp only [List.map_toArray, List.map_cons, List.map_nil]); first | done | rfl | (simp only [List.length_drop, List.length_take]; rfl)) ?_
   with_reducible refine (laws_toMotion.calls a2_0 a2_1 a2_2 a2_3 a2_4 a2_5 t768 t769 t770 t771 t772 t773 _ A8.out).mono ?_
   rintro e w20 ⟨rfl, hb⟩
   refine ⟨_, rfl, ?_⟩
   have n0_ := Aside0.mk (bbl BK752 hb)
   have n1_ := Aside0.mk (bbl BK753 hb)
   have n2_ := Aside0.mk (bst2 HB GE752 GE753 hb)
   clear BK752
   clear BK753
   clear HB
   have BK752 := n0_
   have BK753 := n1_
   have HB := n2_
   clear n0_ n1_ n2_
   (try clear hb)
   (try clear hb2)
   (try clear hk)
   (try clear hi)
   refine hK.out _ _ ⟨bcl BK752 0, bcl BK752 1, bcl BK752 2, bcl BK753 0, bcl BK753 1, bcl BK753 2, bcl BK753 3, bcl BK753 4, bcl BK753 5⟩ (fun hHeld => ?_)
   clear hK K
   refine norm_ (a' := ?_) ?_ ?_
   rotate_left
   ·show Act.put _ (some 25) _ = _
    simp only [Act.put, sA, sB, sC, i64_w, i32_w]
    rfl
   refine one_ (i := 5) (N := some 26) #[true, true, true, true, true, true, false, false, false, false, false] rfl rfl (one_of HT_.out (by kernel_rfl)) (by decide) (fun K hK => ?_)
   refine goes_ Try.func30 (by kernel_rfl) rfl #[.int .i64 a0, .agg #[.int .i64 t765, .int .i64 t766, .int .i64 t767], .agg #[.int .i64 t768, .int .i64 t769, .int .i64 t770, .int .i64 t771, .int .i64 t772, .int .i64 t773]] (by rfl) rfl rfl (by (try simp only [List.map_toArray, List.map_cons, List.map_nil]); first | done | rfl | (simp only [List.length_drop, List.length_take]; rfl)) ?_
   with_reducible refine (impl_MayReflect.calls k a0 t765 t766 t767 t768 t769 t770 t771 t772 t773 t774 t775 _ A9.out).mono ?_
   rintro e w21 ⟨rfl, hb⟩
   refine ⟨_, rfl, ?_⟩
   have n0_ := Aside0.mk (bbl BK752 hb)
   have n1_ := Aside0.mk (bbl BK753 hb)
   have n2_ := Aside0.mk (bst2 HB GE752 GE753 hb)
   clear BK752
   clear BK753
   clear HB
   have BK752 := n0_
   have BK753 := n1_
   have HB := n2_
   clear n0_ n1_ n2_
   (try clear hb)
   (try clear hb2)
   (try clear hk)
   (try clear hi)
   refine hK.out _ _ ⟨bcl BK752 0, bcl BK752 1, bcl BK752 2, bcl BK753 0, bcl BK753 1, bcl BK753 2, bcl BK753 3, bcl BK753 4, bcl BK753 5⟩ (fun hHeld => ?_)
   clear hK K
   refine norm_ (a' := ?_) ?_ ?_
   rotate_left
   ·show Act.put _ (some 26) _ = _
    simp only [Act.put, sA, sB, sC, i64_w, i32_w]
    rfl
   refine pure_ (i := 6) (N := some 20) (v := ?_) (a' := ?_) #[true, true, true, true, true, true, true, false, false, false, false] rfl rfl (any_of HT_.out (by kernel_rfl)) (fun _ _ _ h => h) (Or.inl ⟨by rfl, ?_⟩) ?_ ?_
   rotate_left
   ·intro w'
    go_simp
    with_reducible rfl
   rotate_left
   ·simp only [Act.put, sA, sB, sC, i64_w, i32_w]
    rfl
   refine pure_ (i := 7) (N := some 27) (v := ?_) (a' := ?_) #[true, true, true, true, true, true, true, true, false, false, false] rfl rfl (any_of HT_.out (by kernel_rfl)) (fun _ _ _ h => h) (Or.inl ⟨by rfl, ?_⟩) ?_ ?_
   rotate_left
   ·intro w'
    go_simp
    with_reducible rfl
   rotate_left
   ·simp only [Act.put, sA, sB, sC, i64_w, i32_w]
    rfl
   refine pure_ (i := 8) (N := some 28) (v := ?_) (a' := ?_) #[true, true, true, true, true, true, true, true, true, false, false] rfl rfl (any_of HT_.out (by kernel_rfl)) (fun _ _ _ h => h) (Or.inl ⟨by rfl, ?_⟩) ?_ ?_
   rotate_left
   ·intro w'
    go_simp
    with_reducible rfl
   rotate_left
   ·simp only [Act.put, sA, sB, sC, i64_w, i32_w]
    rfl
   refine pure_ (i := 9) (N := some 9) (v := ?_) (a' := ?_) #[true, true, true, true, true, true, true, true, true, true, false] rfl rfl (any_of HT_.out (by kernel_rfl)) (fun _ _ _ h => h) (Or.inl ⟨by rfl, ?_⟩) ?_ ?_
   rotate_left
   ·intro w'
    go_simp
    with_reducible rfl
   rotate_left
   ·simp only [Act.put, sA, sB, sC, i64_w, i32_w]
    rfl
   refine pure_ (i := 10) (N := some 10) (v := ?_) (a' := ?_) #[true, true, true, true, true, true, true, true, true, true, true] rfl rfl (any_of HT_.out (by kernel_rfl)) (fun _ _ _ h => h) (Or.inl ⟨by rfl, ?_⟩) ?_ ?_
   rotate_left
   ·intro w'
    go_simp
    with_reducible rfl
   rotate_left
   ·simp only [Act.put, sA, sB, sC, i64_w, i32_w]
    rfl
   refine done_ (done_of HT_.out (by kernel_rfl)) ?_
   try go_wp2
   go_ret
   exact ⟨by first | rfl | (simp [errW_none, errW_some] <;> rfl) | (simp [*, errW_none, errW_some] <;> rfl), bbw2 HB GE752 GE753⟩
  ·rw [if_neg c11] at H
   have c11b0 : (t775 == t764) = false := beq_eq_false_iff_ne.mpr c11
   have c11b1 : (t775 != t764) = true := bne_iff_ne.mpr c11
   exact absurd H (by simp)

/-- The one plain statement of laws_FnExactMayReflect. -/
def laws_FnExactMayReflect.Pure : Prop := ∀ (a0 : Int) (a1_0 : Int) (a1_1 : Int) (a1_2 : Int) (a2_0 : Int) (a2_1 : Int) (a2_2 : Int) (a2_3 : Int) (a2_4 : Int) (a2_5 : Int), (Lit.int .i64 a0).wf = true → (Lit.int .i64 a1_0).wf = true → (Lit.int .i64 a1_1).wf = true → (Lit.int .i64 a1_2).wf = true → (Lit.int .i64 a2_0).wf = true → (Lit.int .i64 a2_1).wf = true → (Lit.int .i64 a2_2).wf = true → (Lit.int .i64 a2_3).wf = true → (Lit.int .i64 a2_4).wf = true → (Lit.int .i64 a2_5).wf = true → ∃ k, laws_FnExactMayReflect.f k a0 a1_0 a1_1 a1_2 a2_0 a2_1 a2_2 a2_3 a2_4 a2_5 = some true
end Go.Proofs.Ytndfnaehpdkaiaa.PA
