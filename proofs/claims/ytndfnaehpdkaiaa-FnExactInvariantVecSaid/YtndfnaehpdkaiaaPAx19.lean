/- Walks written by program: each Go function that the law reaches comes to the plain function beside it. -/
import Derived.Test.YtndfnaehpdkaiaaPAx0
import Derived.Test.YtndfnaehpdkaiaaPAx3
import Derived.Test.YtndfnaehpdkaiaaPAx5
import Derived.Test.YtndfnaehpdkaiaaPAx6
import Derived.Test.YtndfnaehpdkaiaaPAx10
import Derived.Test.YtndfnaehpdkaiaaPAx12
import Derived.Test.YtndfnaehpdkaiaaPAx17
import Derived.Test.YtndfnaehpdkaiaaPAx18
import Derived.Test.YtndfnaehpdkaiaaPAx20
namespace Go.Proofs.Ytndfnaehpdkaiaa.PA
open Go.RowKit Go.Proofs.YtndfnaehpdkaiaaW.PrintWords Go.Proofs.YtndfnaehpdkaiaaW.PrintLast Go.Proofs.YtndfnaehpdkaiaaW.PrintMore
attribute [local go_sem] max2_int min2_int max_two min_two max_three min_three max_four min_four   -- for this text's walks alone
set_option linter.unusedVariables false
set_option linter.unusedSimpArgs false

/-! ### spec_InvariantVec: function 23 -/
def spec_InvariantVec.f (k : Nat) (a0 : Int) (a1_0 : Int) (a1_1 : Int) (a1_2 : Int) (a2_0 : Int) (a2_1 : Int) (a2_2 : Int) (a2_3 : Int) : Option (Int × Int × Int) := (spec_l11Mirror.f k a0 a1_0 a1_1 a1_2 a2_0 a2_1 a2_2 a2_3).bind fun t523 => ((spec_l06Code.f a0 a1_0 a1_1 a1_2 t523).bind fun t524 => (if t524 = 0 then ((spec_l11Invariant.f k a1_0 a1_1 a1_2 a2_0 a2_1 a2_2 a2_3 1).bind fun bt525 => (some (bt525.1, bt525.2, 0))) else (some (0, 0, t524))))
def spec_InvariantVec.T1 : Bool × List (List Nat × List Nat) := (true, [([], []), ([], []), ([], []), ([], []), ([], []), ([2, 3, 4], [2, 3, 4]), ([0, 1, 5, 5], [0, 1, 5]), ([6, 6, 0, 1, 2, 3, 4, 5, 6], [6])])
def spec_InvariantVec.B1 : List Nat := [0, 0, 0, 0, 0, 28, 63, 127]
theorem spec_InvariantVec.tab1 : rtab .any (opsOf Try.f23 1) = spec_InvariantVec.T1 := by kernel_rfl
theorem spec_InvariantVec.bits1 : waitsOk spec_InvariantVec.T1.2 spec_InvariantVec.B1 = true := by kernel_rfl
set_option maxHeartbeats 8000000 in
set_option maxRecDepth 100000 in
theorem spec_InvariantVec.calls (k : Nat) (a0 : Int) (a1_0 : Int) (a1_1 : Int) (a1_2 : Int) (a2_0 : Int) (a2_1 : Int) (a2_2 : Int) (a2_3 : Int) (r1 : Int) (r2 : Int) (r3 : Int) (w : World) (h : spec_InvariantVec.f k a0 a1_0 a1_1 a1_2 a2_0 a2_1 a2_2 a2_3 = some (r1, r2, r3)) :
  Calls Try.prog 23 #[.int .i64 a0, .agg #[.int .i64 a1_0, .int .i64 a1_1, .int .i64 a1_2], .agg #[.int .i64 a2_0, .int .i64 a2_1, .int .i64 a2_2, .int .i64 a2_3]] w fun e w' => e = .returned (.tuple #[.agg #[.int .i64 r1, .int .i64 r2], .int .i64 r3]) ∧ Below w.heap.size w w' := by
 have hu31 := Try.underlying31
 have hu33 := Try.underlying33
 have hu34 := Try.underlying34
 have HB := Aside0.mk (Below.refl w.heap.size w)
 have H : ((spec_l11Mirror.f k a0 a1_0 a1_1 a1_2 a2_0 a2_1 a2_2 a2_3).bind fun t523 => ((spec_l06Code.f a0 a1_0 a1_1 a1_2 t523).bind fun t524 => (if t524 = 0 then ((spec_l11Invariant.f k a1_0 a1_1 a1_2 a2_0 a2_1 a2_2 a2_3 1).bind fun bt525 => (some (bt525.1, bt525.2, 0))) else (some (0, 0, t524))))) = some (r1, r2, r3) := h
 clear h
 replace H := Option.bind_eq_some_iff.mp H
 obtain ⟨t523, A40, H⟩ := H
 replace H : ((spec_l06Code.f a0 a1_0 a1_1 a1_2 t523).bind fun t524 => (if t524 = 0 then ((spec_l11Invariant.f k a1_0 a1_1 a1_2 a2_0 a2_1 a2_2 a2_3 1).bind fun bt525 => (some (bt525.1, bt525.2, 0))) else (some (0, 0, t524)))) = some (r1, r2, r3) := H
 have A4 := Aside0.mk A40
 clear A40
 replace H := Option.bind_eq_some_iff.mp H
 obtain ⟨t524, A50, H⟩ := H
 replace H : (if t524 = 0 then ((spec_l11Invariant.f k a1_0 a1_1 a1_2 a2_0 a2_1 a2_2 a2_3 1).bind fun bt525 => (some (bt525.1, bt525.2, 0))) else (some (0, 0, t524))) = some (r1, r2, r3) := H
 have A5 := Aside0.mk A50
 clear A50
 by_cases c6 : t524 = 0
 ·rw [if_pos c6] at H
  have c6b0 : (t524 == 0) = true := beq_iff_eq.mpr c6
  have c6b1 : (t524 != 0) = false := bne_eq_false_iff_eq.mpr c6
  clear c6
  replace H := Option.bind_eq_some_iff.mp H
  obtain ⟨⟨t525, t526⟩, A70, H⟩ := H
  replace H : (some (t525, t526, 0)) = some (r1, r2, r3) := H
  have A7 := Aside0.mk A70
  clear A70
  simp only [Option.some.injEq, Prod.mk.injEq] at H
  obtain ⟨rfl, rfl, rfl⟩ := H
  go_enter Try.func23, Try.ntmps23
  try go_wp2_with (first | ((with_reducible refine gate_dst (N := 4) rfl ?_); refine box_event ?hg (N := 4) ?hd (cs := #[.int .i64 a1_0, .int .i64 a1_1, .int .i64 a1_2]) (t := 31) ?hr ?_; (case hd => rfl); (case hg => rfl); (case hr => first | (go_simp; done) | (go_simp; rfl)); intro gb520 hg w8 hbox hb; have n0_ := Aside0.mk (bst0 HB hb); have n1_ := Aside0.mk (hbox); have n2_ := ngw0 hg HB; have n3_ := n2_; clear HB; have HB := n0_; have BK520 := n1_; have GW520 := n2_; have GE520 := n3_; clear n0_ n1_ n2_ n3_; clear hb hbox hg) | ((with_reducible refine gate_dst (N := 5) rfl ?_); refine box_event ?hg (N := 5) ?hd (cs := #[.int .i64 a2_0, .int .i64 a2_1, .int .i64 a2_2, .int .i64 a2_3]) (t := 33) ?hr ?_; (case hd => rfl); (case hg => rfl); (case hr => first | (go_simp; done) | (go_simp; rfl)); intro gb521 hg w9 hbox hb; have n0_ := Aside0.mk (bbl BK520 hb); have n1_ := Aside0.mk (bst1 HB GE520 hb); have n2_ := Aside0.mk (hbox); have n3_ := ngw1 hg HB GE520; have n4_ := n3_; have n5_ := nlt hg BK520; have n6_ := nsy (nlt hg BK520); clear BK520; clear HB; have BK520 := n0_; have HB := n1_; have BK521 := n2_; have GW521 := n3_; have GE521 := n4_; have NB520_521 := n5_; have NB521_520 := n6_; clear n0_ n1_ n2_ n3_ n4_ n5_ n6_; clear hb hbox hg) | ((with_reducible refine gate_dst (N := 6) rfl ?_); refine box_event ?hg (N := 6) ?hd (cs := #[.int .i64 0, .int .i64 0]) (t := 34) ?hr ?_; (case hd => rfl); (case hg => rfl); (case hr => first | (go_simp; done) | (go_simp; rfl)); intro gb522 hg w10 hbox hb; have n0_ := Aside0.mk (bbl BK520 hb); have n1_ := Aside0.mk (bbl BK521 hb); have n2_ := Aside0.mk (bst2 HB GE520 GE521 hb); have n3_ := Aside0.mk (hbox); have n4_ := ngw2 hg HB GE520 GE521; have n5_ := n4_; have n6_ := nlt hg BK520; have n7_ := nsy (nlt hg BK520); have n8_ := nlt hg BK521; have n9_ := nsy (nlt hg BK521); clear BK520; clear BK521; clear HB; have BK520 := n0_; have BK521 := n1_; have HB := n2_; have BK522 := n3_; have GW522 := n4_; have GE522 := n5_; have NB520_522 := n6_; have NB522_520 := n7_; have NB521_522 := n8_; have NB522_521 := n9_; clear n0_ n1_ n2_ n3_ n4_ n5_ n6_ n7_ n8_ n9_; clear hb hbox hg))
  have n0_ := Aside0.mk (blk_drew BK520.out)
  have n1_ := Aside0.mk (blk_drew BK521.out)
  have n2_ := Aside0.mk (blk_drew BK522.out)
  have n3_ := Aside0.mk (below_drew1 HB.out)
  clear BK520
  clear BK521
  clear BK522
  clear HB
  have BK520 := n0_
  have BK521 := n1_
  have BK522 := n2_
  have HB := n3_
  clear n0_ n1_ n2_ n3_
  refine start_ (n := 8) (S := fun w' => w'.cell? ⟨gb520, 0, none⟩ = some (.int .i64 a1_0) ∧ w'.cell? ⟨gb520, 1, none⟩ = some (.int .i64 a1_1) ∧ w'.cell? ⟨gb520, 2, none⟩ = some (.int .i64 a1_2) ∧ w'.cell? ⟨gb521, 0, none⟩ = some (.int .i64 a2_0) ∧ w'.cell? ⟨gb521, 1, none⟩ = some (.int .i64 a2_1) ∧ w'.cell? ⟨gb521, 2, none⟩ = some (.int .i64 a2_2) ∧ w'.cell? ⟨gb521, 3, none⟩ = some (.int .i64 a2_3)) (ds := []) #[false, false, false, false, false, false, false, false] (by kernel_rfl) rfl rfl ⟨bcl BK520 0, bcl BK520 1, bcl BK520 2, bcl BK521 0, bcl BK521 1, bcl BK521 2, bcl BK521 3⟩ (fun hHeld => ?_); refine with_tabW spec_InvariantVec.tab1 spec_InvariantVec.bits1 (fun HT_ HW_ => ?_)
  generalize w10.drew = w11 at BK520 BK521 BK522 HB hHeld ⊢
  refine pure_ (i := 0) (N := some 9) (v := ?_) (a' := ?_) #[true, false, false, false, false, false, false, false] rfl rfl (any_of HT_.out (by kernel_rfl)) (fun _ _ _ h => h) (Or.inl ⟨by rfl, ?_⟩) ?_ ?_
  rotate_left
  ·intro w'
   go_simp
   with_reducible rfl
  rotate_left
  ·simp only [Act.put, sA, sB, sC, i64_w, i32_w]
   rfl
  refine pure_ (i := 2) (N := some 11) (v := ?_) (a' := ?_) #[true, false, true, false, false, false, false, false] rfl rfl (any_of HT_.out (by kernel_rfl)) (fun _ _ _ h => h) (Or.inl ⟨by rfl, ?_⟩) ?_ ?_
  rotate_left
  ·intro w'
   go_simp
   with_reducible rfl
  rotate_left
  ·simp only [Act.put, sA, sB, sC, i64_w, i32_w]
   rfl
  refine take_ (i := 1) (N := some 10) (v := ?_) (a' := ?_) #[true, true, true, false, false, false, false, false] rfl rfl (take_ofW HT_.out HW_.out (by kernel_rfl)) (fun _ _ _ h => h) (Or.inl ⟨by rfl, ?_⟩) hHeld ?_ ?_
  rotate_left
  ·rintro w' ⟨s0, s1, s2, s3, s4, s5, s6⟩
   go_simp
   with_reducible rfl
  rotate_left
  ·simp only [Act.put, sA, sB, sC, i64_w, i32_w]
   rfl
  refine take_ (i := 3) (N := some 12) (v := ?_) (a' := ?_) #[true, true, true, true, false, false, false, false] rfl rfl (take_ofW HT_.out HW_.out (by kernel_rfl)) (fun _ _ _ h => h) (Or.inl ⟨by rfl, ?_⟩) hHeld ?_ ?_
  rotate_left
  ·rintro w' ⟨s0, s1, s2, s3, s4, s5, s6⟩
   go_simp
   with_reducible rfl
  rotate_left
  ·simp only [Act.put, sA, sB, sC, i64_w, i32_w]
   rfl
  refine take_ (i := 4) (N := some 13) (v := ?_) (a' := ?_) #[true, true, true, true, true, false, false, false] rfl rfl (take_ofW HT_.out HW_.out (by kernel_rfl)) (fun _ _ _ h => h) (Or.inl ⟨by rfl, ?_⟩) hHeld ?_ ?_
  rotate_left
  ·rintro w' ⟨s0, s1, s2, s3, s4, s5, s6⟩
   go_simp
   with_reducible rfl
  rotate_left
  ·simp only [Act.put, sA, sB, sC, i64_w, i32_w]
   rfl
  refine one_ (i := 5) (N := some 14) #[true, true, true, true, true, true, false, false] rfl rfl (one_of HT_.out (by kernel_rfl)) (by decide) (fun K hK => ?_)
  refine goes_ Try.func51 (by kernel_rfl) rfl #[.int .i64 a0, .agg #[.int .i64 a1_0, .int .i64 a1_1, .int .i64 a1_2], .agg #[.int .i64 a2_0, .int .i64 a2_1, .int .i64 a2_2, .int .i64 a2_3]] (by rfl) rfl rfl (by (try simp only [List.map_toArray, List.map_cons, List.map_nil]); first | done | rfl | (simp only [List.length_drop, List.length_take]; rfl)) ?_
  with_reducible refine (spec_l11Mirror.calls k a0 a1_0 a1_1 a1_2 a2_0 a2_1 a2_2 a2_3 t523 _ A4.out).mono ?_
  rintro e w12 ⟨rfl, hb⟩
  refine ⟨_, rfl, ?_⟩
  have n0_ := Aside0.mk (bbl BK520 hb)
  have n1_ := Aside0.mk (bbl BK521 hb)
  have n2_ := Aside0.mk (bbl BK522 hb)
  have n3_ := Aside0.mk (bst3 HB GE520 GE521 GE522 hb)
  clear BK520
  clear BK521
  clear BK522
  clear HB
  have BK520 := n0_
  have BK521 := n1_
  have BK522 := n2_
  have HB := n3_
  clear n0_ n1_ n2_ n3_
  (try clear hb)
  (try clear hb2)
  (try clear hk)
  (try clear hi)
  refine hK.out _ _ ⟨bcl BK520 0, bcl BK520 1, bcl BK520 2, bcl BK521 0, bcl BK521 1, bcl BK521 2, bcl BK521 3⟩ (fun hHeld => ?_)
  clear hK K
  refine norm_ (a' := ?_) ?_ ?_
  rotate_left
  ·show Act.put _ (some 14) _ = _
   simp only [Act.put, sA, sB, sC, i64_w, i32_w]
   rfl
  refine one_ (i := 6) (N := some 15) #[true, true, true, true, true, true, true, false] rfl rfl (one_of HT_.out (by kernel_rfl)) (by decide) (fun K hK => ?_)
  refine goes_ Try.func45 (by kernel_rfl) rfl #[.int .i64 a0, .agg #[.int .i64 a1_0, .int .i64 a1_1, .int .i64 a1_2], .bool t523] (by rfl) rfl rfl (by (try simp only [List.map_toArray, List.map_cons, List.map_nil]); first | done | rfl | (simp only [List.length_drop, List.length_take]; rfl)) ?_
  with_reducible refine (spec_l06Code.calls a0 a1_0 a1_1 a1_2 t523 t524 _ A5.out).mono ?_
  rintro e w13 ⟨rfl, hb⟩
  refine ⟨_, rfl, ?_⟩
  have n0_ := Aside0.mk (bbl BK520 hb)
  have n1_ := Aside0.mk (bbl BK521 hb)
  have n2_ := Aside0.mk (bbl BK522 hb)
  have n3_ := Aside0.mk (bst3 HB GE520 GE521 GE522 hb)
  clear BK520
  clear BK521
  clear BK522
  clear HB
  have BK520 := n0_
  have BK521 := n1_
  have BK522 := n2_
  have HB := n3_
  clear n0_ n1_ n2_ n3_
  (try clear hb)
  (try clear hb2)
  (try clear hk)
  (try clear hi)
  refine hK.out _ _ ⟨bcl BK520 0, bcl BK520 1, bcl BK520 2, bcl BK521 0, bcl BK521 1, bcl BK521 2, bcl BK521 3⟩ (fun hHeld => ?_)
  clear hK K
  refine norm_ (a' := ?_) ?_ ?_
  rotate_left
  ·show Act.put _ (some 15) _ = _
   simp only [Act.put, sA, sB, sC, i64_w, i32_w]
   rfl
  refine pure_ (i := 7) (N := some 8) (v := ?_) (a' := ?_) #[true, true, true, true, true, true, true, true] rfl rfl (any_of HT_.out (by kernel_rfl)) (fun _ _ _ h => h) (Or.inl ⟨by rfl, ?_⟩) ?_ ?_
  rotate_left
  ·intro w'
   go_simp
   with_reducible rfl
  rotate_left
  ·simp only [Act.put, sA, sB, sC, i64_w, i32_w]
   rfl
  refine done_ (done_of HT_.out (by kernel_rfl)) ?_
  have hnb14 := NB520_521.out
  have hnc14 := NB521_520.out
  have hnb15 := NB520_522.out
  have hnc15 := NB522_520.out
  have hcz16_0 : w13.cell? ⟨gb520, 0, none⟩ = some (.int .i64 a1_0) := bcl BK520 0
  have hcz16_1 : w13.cell? ⟨gb520, 1, none⟩ = some (.int .i64 a1_1) := bcl BK520 1
  have hcz16_2 : w13.cell? ⟨gb520, 2, none⟩ = some (.int .i64 a1_2) := bcl BK520 2
  have hfz16_0 := blk_frozen BK520.out 0
  have hfz16_1 := blk_frozen BK520.out 1
  have hfz16_2 := blk_frozen BK520.out 2
  have hnb17 := NB521_522.out
  have hnc17 := NB522_521.out
  have hcz18_0 : w13.cell? ⟨gb521, 0, none⟩ = some (.int .i64 a2_0) := bcl BK521 0
  have hcz18_1 : w13.cell? ⟨gb521, 1, none⟩ = some (.int .i64 a2_1) := bcl BK521 1
  have hcz18_2 : w13.cell? ⟨gb521, 2, none⟩ = some (.int .i64 a2_2) := bcl BK521 2
  have hcz18_3 : w13.cell? ⟨gb521, 3, none⟩ = some (.int .i64 a2_3) := bcl BK521 3
  have hfz18_0 := blk_frozen BK521.out 0
  have hfz18_1 := blk_frozen BK521.out 1
  have hfz18_2 := blk_frozen BK521.out 2
  have hfz18_3 := blk_frozen BK521.out 3
  try go_wp2_with (first | ((with_reducible refine gate_callee (f := 52) rfl ?_); refine goesL_ (some 22) rfl rfl Try.func52 (by kernel_rfl) rfl #[.agg #[.int .i64 a1_0, .int .i64 a1_1, .int .i64 a1_2], .agg #[.int .i64 a2_0, .int .i64 a2_1, .int .i64 a2_2, .int .i64 a2_3], .int .i64 1] rfl (by (try simp only [List.map_toArray, List.map_cons, List.map_nil]); first | done | rfl | (simp only [List.length_drop, List.length_take]; rfl)) ?_; (with_reducible refine (spec_l11Invariant.calls k a1_0 a1_1 a1_2 a2_0 a2_1 a2_2 a2_3 1 t525 t526 _ A7.out).mono ?_); rintro e w19 ⟨rfl, hb⟩; refine ⟨_, rfl, ?_⟩; have n0_ := Aside0.mk (bbl BK520 hb); have n1_ := Aside0.mk (bbl BK521 hb); have n2_ := Aside0.mk (bbl BK522 hb); have n3_ := Aside0.mk (bst3 HB GE520 GE521 GE522 hb); clear BK520; clear BK521; clear BK522; clear HB; have BK520 := n0_; have BK521 := n1_; have BK522 := n2_; have HB := n3_; clear n0_ n1_ n2_ n3_; (try clear hb); (try clear hb2); (try clear hk); (try clear hi); have hcz20_0 : w19.cell? ⟨gb522, 0, none⟩ = some (.int .i64 0) := bcl BK522 0; have hcz20_1 : w19.cell? ⟨gb522, 1, none⟩ = some (.int .i64 0) := bcl BK522 1; have hfz20_0 := blk_frozen BK522.out 0; have hfz20_1 := blk_frozen BK522.out 1))
  refine bodyPost_ret (results_ct rfl _ _ gb522 34 #[.int .i64 t525, .int .i64 t526] (0, 0) _ rfl (by (with_reducible repeat (first | refine blk_drewN ?_ _ | refine blk_drew ?_ | refine blk_alloc ?_ _)); refine blk_put (cs := #[.int .i64 t525, .int .i64 0]) ?_ 1 _ rfl; (with_reducible repeat (first | refine blk_drewN ?_ _ | refine blk_drew ?_ | refine blk_alloc ?_ _)); refine blk_put (cs := #[.int .i64 0, .int .i64 0]) ?_ 0 _ rfl; (with_reducible repeat (first | refine blk_drewN ?_ _ | refine blk_drew ?_ | refine blk_alloc ?_ _)); exact BK522.out) Try.underlying34 rfl (by kernel_rfl)) rfl ?_
  exact ⟨by first | rfl | (simp [errW_none, errW_some] <;> rfl) | (simp [*, errW_none, errW_some] <;> rfl), bbw3 HB GE520 GE521 GE522⟩
 ·rw [if_neg c6] at H
  have c6b0 : (t524 == 0) = false := beq_eq_false_iff_ne.mpr c6
  have c6b1 : (t524 != 0) = true := bne_iff_ne.mpr c6
  simp only [Option.some.injEq, Prod.mk.injEq] at H
  obtain ⟨rfl, rfl, rfl⟩ := H
  go_enter Try.func23, Try.ntmps23
  try go_wp2_with (first | ((with_reducible refine gate_dst (N := 4) rfl ?_); refine box_event ?hg (N := 4) ?hd (cs := #[.int .i64 a1_0, .int .i64 a1_1, .int .i64 a1_2]) (t := 31) ?hr ?_; (case hd => rfl); (case hg => rfl); (case hr => first | (go_simp; done) | (go_simp; rfl)); intro gb520 hg w21 hbox hb; have n0_ := Aside0.mk (bst0 HB hb); have n1_ := Aside0.mk (hbox); have n2_ := ngw0 hg HB; have n3_ := n2_; clear HB; have HB := n0_; have BK520 := n1_; have GW520 := n2_; have GE520 := n3_; clear n0_ n1_ n2_ n3_; clear hb hbox hg) | ((with_reducible refine gate_dst (N := 5) rfl ?_); refine box_event ?hg (N := 5) ?hd (cs := #[.int .i64 a2_0, .int .i64 a2_1, .int .i64 a2_2, .int .i64 a2_3]) (t := 33) ?hr ?_; (case hd => rfl); (case hg => rfl); (case hr => first | (go_simp; done) | (go_simp; rfl)); intro gb521 hg w22 hbox hb; have n0_ := Aside0.mk (bbl BK520 hb); have n1_ := Aside0.mk (bst1 HB GE520 hb); have n2_ := Aside0.mk (hbox); have n3_ := ngw1 hg HB GE520; have n4_ := n3_; have n5_ := nlt hg BK520; have n6_ := nsy (nlt hg BK520); clear BK520; clear HB; have BK520 := n0_; have HB := n1_; have BK521 := n2_; have GW521 := n3_; have GE521 := n4_; have NB520_521 := n5_; have NB521_520 := n6_; clear n0_ n1_ n2_ n3_ n4_ n5_ n6_; clear hb hbox hg) | ((with_reducible refine gate_dst (N := 6) rfl ?_); refine box_event ?hg (N := 6) ?hd (cs := #[.int .i64 0, .int .i64 0]) (t := 34) ?hr ?_; (case hd => rfl); (case hg => rfl); (case hr => first | (go_simp; done) | (go_simp; rfl)); intro gb522 hg w23 hbox hb; have n0_ := Aside0.mk (bbl BK520 hb); have n1_ := Aside0.mk (bbl BK521 hb); have n2_ := Aside0.mk (bst2 HB GE520 GE521 hb); have n3_ := Aside0.mk (hbox); have n4_ := ngw2 hg HB GE520 GE521; have n5_ := n4_; have n6_ := nlt hg BK520; have n7_ := nsy (nlt hg BK520); have n8_ := nlt hg BK521; have n9_ := nsy (nlt hg BK521); clear BK520; clear BK521; clear HB; have BK520 := n0_; have BK521 := n1_; have HB := n2_; have BK522 := n3_; have GW522 := n4_; have GE522 := n5_; have NB520_522 := n6_; have NB522_520 := n7_; have NB521_522 := n8_; have NB522_521 := n9_; clear n0_ n1_ n2_ n3_ n4_ n5_ n6_ n7_ n8_ n9_; clear hb hbox hg))
  have n0_ := Aside0.mk (blk_drew BK520.out)
  have n1_ := Aside0.mk (blk_drew BK521.out)
  have n2_ := Aside0.mk (blk_drew BK522.out)
  have n3_ := Aside0.mk (below_drew1 HB.out)
  clear BK520
  clear BK521
  clear BK522
  clear HB
  have BK520 := n0_
  have BK521 := n1_
  have BK522 := n2_
  have HB := n3_
  clear n0_ n1_ n2_ n3_
  refine start_ (n := 8) (S := fun w' => w'.cell? ⟨gb520, 0, none⟩ = some (.int .i64 a1_0) ∧ w'.cell? ⟨gb520, 1, none⟩ = some (.int .i64 a1_1) ∧ w'.cell? ⟨gb520, 2, none⟩ = some (.int .i64 a1_2) ∧ w'.cell? ⟨gb521, 0, none⟩ = some (.int .i64 a2_0) ∧ w'.cell? ⟨gb521, 1, none⟩ = some (.int .i64 a2_1) ∧ w'.cell? ⟨gb521, 2, none⟩ = some (.int .i64 a2_2) ∧ w'.cell? ⟨gb521, 3, none⟩ = some (.int .i64 a2_3)) (ds := []) #[false, false, false, false, false, false, false, false] (by kernel_rfl) rfl rfl ⟨bcl BK520 0, bcl BK520 1, bcl BK520 2, bcl BK521 0, bcl BK521 1, bcl BK521 2, bcl BK521 3⟩ (fun hHeld => ?_); refine with_tabW spec_InvariantVec.tab1 spec_InvariantVec.bits1 (fun HT_ HW_ => ?_)
  generalize w23.drew = w24 at BK520 BK521 BK522 HB hHeld ⊢
  refine pure_ (i := 0) (N := some 9) (v := ?_) (a' := ?_) #[true, false, false, false, false, false, false, false] rfl rfl (any_of HT_.out (by kernel_rfl)) (fun _ _ _ h => h) (Or.inl ⟨by rfl, ?_⟩) ?_ ?_
  rotate_left
  ·intro w'
   go_simp
   with_reducible rfl
  rotate_left
  ·simp only [Act.put, sA, sB, sC, i64_w, i32_w]
   rfl
  refine pure_ (i := 2) (N := some 11) (v := ?_) (a' := ?_) #[true, false, true, false, false, false, false, false] rfl rfl (any_of HT_.out (by kernel_rfl)) (fun _ _ _ h => h) (Or.inl ⟨by rfl, ?_⟩) ?_ ?_
  rotate_left
  ·intro w'
   go_simp
   with_reducible rfl
  rotate_left
  ·simp only [Act.put, sA, sB, sC, i64_w, i32_w]
   rfl
  refine take_ (i := 1) (N := some 10) (v := ?_) (a' := ?_) #[true, true, true, false, false, false, false, false] rfl rfl (take_ofW HT_.out HW_.out (by kernel_rfl)) (fun _ _ _ h => h) (Or.inl ⟨by rfl, ?_⟩) hHeld ?_ ?_
  rotate_left
  ·rintro w' ⟨s0, s1, s2, s3, s4, s5, s6⟩
   go_simp
   with_reducible rfl
  rotate_left
  ·simp only [Act.put, sA, sB, sC, i64_w, i32_w]
   rfl
  refine take_ (i := 3) (N := some 12) (v := ?_) (a' := ?_) #[true, true, true, true, false, false, false, false] rfl rfl (take_ofW HT_.out HW_.out (by kernel_rfl)) (fun _ _ _ h => h) (Or.inl ⟨by rfl, ?_⟩) hHeld ?_ ?_
  rotate_left
  ·rintro w' ⟨s0, s1, s2, s3, s4, s5, s6⟩
   go_simp
   with_reducible rfl
  rotate_left
  ·simp only [Act.put, sA, sB, sC, i64_w, i32_w]
   rfl
  refine take_ (i := 4) (N := some 13) (v := ?_) (a' := ?_) #[true, true, true, true, true, false, false, false] rfl rfl (take_ofW HT_.out HW_.out (by kernel_rfl)) (fun _ _ _ h => h) (Or.inl ⟨by rfl, ?_⟩) hHeld ?_ ?_
  rotate_left
  ·rintro w' ⟨s0, s1, s2, s3, s4, s5, s6⟩
   go_simp
   with_reducible rfl
  rotate_left
  ·simp only [Act.put, sA, sB, sC, i64_w, i32_w]
   rfl
  refine one_ (i := 5) (N := some 14) #[true, true, true, true, true, true, false, false] rfl rfl (one_of HT_.out (by kernel_rfl)) (by decide) (fun K hK => ?_)
  refine goes_ Try.func51 (by kernel_rfl) rfl #[.int .i64 a0, .agg #[.int .i64 a1_0, .int .i64 a1_1, .int .i64 a1_2], .agg #[.int .i64 a2_0, .int .i64 a2_1, .int .i64 a2_2, .int .i64 a2_3]] (by rfl) rfl rfl (by (try simp only [List.map_toArray, List.map_cons, List.map_nil]); first | done | rfl | (simp only [List.length_drop, List.length_take]; rfl)) ?_
  with_reducible refine (spec_l11Mirror.calls k a0 a1_0 a1_1 a1_2 a2_0 a2_1 a2_2 a2_3 t523 _ A4.out).mono ?_
  rintro e w25 ⟨rfl, hb⟩
  refine ⟨_, rfl, ?_⟩
  have n0_ := Aside0.mk (bbl BK520 hb)
  have n1_ := Aside0.mk (bbl BK521 hb)
  have n2_ := Aside0.mk (bbl BK522 hb)
  have n3_ := Aside0.mk (bst3 HB GE520 GE521 GE522 hb)
  clear BK520
  clear BK521
  clear BK522
  clear HB
  have BK520 := n0_
  have BK521 := n1_
  have BK522 := n2_
  have HB := n3_
  clear n0_ n1_ n2_ n3_
  (try clear hb)
  (try clear hb2)
  (try clear hk)
  (try clear hi)
  refine hK.out _ _ ⟨bcl BK520 0, bcl BK520 1, bcl BK520 2, bcl BK521 0, bcl BK521 1, bcl BK521 2, bcl BK521 3⟩ (fun hHeld => ?_)
  clear hK K
  refine norm_ (a' := ?_) ?_ ?_
  rotate_left
  ·show Act.put _ (some 14) _ = _
   simp only [Act.put, sA, sB, sC, i64_w, i32_w]
   rfl
  refine one_ (i := 6) (N := some 15) #[true, true, true, true, true, true, true, false] rfl rfl (one_of HT_.out (by kernel_rfl)) (by decide) (fun K hK => ?_)
  refine goes_ Try.func45 (by kernel_rfl) rfl #[.int .i64 a0, .agg #[.int .i64 a1_0, .int .i64 a1_1, .int .i64 a1_2], .bool t523] (by rfl) rfl rfl (by (try simp only [List.map_toArray, List.map_cons, List.map_nil]); first | done | rfl | (simp only [List.length_drop, List.length_take]; rfl)) ?_
  with_reducible refine (spec_l06Code.calls a0 a1_0 a1_1 a1_2 t523 t524 _ A5.out).mono ?_
  rintro e w26 ⟨rfl, hb⟩
  refine ⟨_, rfl, ?_⟩
  have n0_ := Aside0.mk (bbl BK520 hb)
  have n1_ := Aside0.mk (bbl BK521 hb)
  have n2_ := Aside0.mk (bbl BK522 hb)
  have n3_ := Aside0.mk (bst3 HB GE520 GE521 GE522 hb)
  clear BK520
  clear BK521
  clear BK522
  clear HB
  have BK520 := n0_
  have BK521 := n1_
  have BK522 := n2_
  have HB := n3_
  clear n0_ n1_ n2_ n3_
  (try clear hb)
  (try clear hb2)
  (try clear hk)
  (try clear hi)
  refine hK.out _ _ ⟨bcl BK520 0, bcl BK520 1, bcl BK520 2, bcl BK521 0, bcl BK521 1, bcl BK521 2, bcl BK521 3⟩ (fun hHeld => ?_)
  clear hK K
  refine norm_ (a' := ?_) ?_ ?_
  rotate_left
  ·show Act.put _ (some 15) _ = _
   simp only [Act.put, sA, sB, sC, i64_w, i32_w]
   rfl
  refine pure_ (i := 7) (N := some 8) (v := ?_) (a' := ?_) #[true, true, true, true, true, true, true, true] rfl rfl (any_of HT_.out (by kernel_rfl)) (fun _ _ _ h => h) (Or.inl ⟨by rfl, ?_⟩) ?_ ?_
  rotate_left
  ·intro w'
   go_simp
   with_reducible rfl
  rotate_left
  ·simp only [Act.put, sA, sB, sC, i64_w, i32_w]
   rfl
  refine done_ (done_of HT_.out (by kernel_rfl)) ?_
  have hnb27 := NB522_520.out
  have hnc27 := NB520_522.out
  have hnb28 := NB522_521.out
  have hnc28 := NB521_522.out
  have hcz29_0 : w26.cell? ⟨gb522, 0, none⟩ = some (.int .i64 0) := bcl BK522 0
  have hcz29_1 : w26.cell? ⟨gb522, 1, none⟩ = some (.int .i64 0) := bcl BK522 1
  have hfz29_0 := blk_frozen BK522.out 0
  have hfz29_1 := blk_frozen BK522.out 1
  try go_wp2
  refine bodyPost_ret (results_ct rfl _ _ gb522 34 #[.int .i64 0, .int .i64 0] (0, 0) _ rfl (by (with_reducible repeat (first | refine blk_drewN ?_ _ | refine blk_drew ?_ | refine blk_alloc ?_ _)); refine blk_put (cs := #[.int .i64 0, .int .i64 0]) ?_ 1 _ rfl; (with_reducible repeat (first | refine blk_drewN ?_ _ | refine blk_drew ?_ | refine blk_alloc ?_ _)); refine blk_put (cs := #[.int .i64 0, .int .i64 0]) ?_ 0 _ rfl; (with_reducible repeat (first | refine blk_drewN ?_ _ | refine blk_drew ?_ | refine blk_alloc ?_ _)); exact BK522.out) Try.underlying34 rfl (by kernel_rfl)) rfl ?_
  exact ⟨by first | rfl | (simp [errW_none, errW_some] <;> rfl) | (simp [*, errW_none, errW_some] <;> rfl), bbw3 HB GE520 GE521 GE522⟩


attribute [local go_sem high] eqA34
/-! ### impl_InvariantVec: function 25 -/
def impl_InvariantVec.f (k : Nat) (a0 : Int) (a1_0 : Int) (a1_1 : Int) (a1_2 : Int) (a2_0 : Int) (a2_1 : Int) (a2_2 : Int) (a2_3 : Int) : Option (Int × Int × Int) := (impl_mirrorCode.f k a0 a1_0 a1_1 a1_2 a2_0 a2_1 a2_2 a2_3).bind fun t610 => (if t610 = 0 then ((impl_Mat_axis.f k a2_0 a2_1 a2_2 a2_3).bind fun bt611 => ((impl_Lattice_multipleIn.f k a1_0 a1_1 a1_2 bt611.1 bt611.2).bind fun bt613 => (some (bt613.1, bt613.2, 0)))) else (some (0, 0, t610)))
set_option maxHeartbeats 8000000 in
set_option maxRecDepth 100000 in
theorem impl_InvariantVec.calls (k : Nat) (a0 : Int) (a1_0 : Int) (a1_1 : Int) (a1_2 : Int) (a2_0 : Int) (a2_1 : Int) (a2_2 : Int) (a2_3 : Int) (r1 : Int) (r2 : Int) (r3 : Int) (w : World) (h : impl_InvariantVec.f k a0 a1_0 a1_1 a1_2 a2_0 a2_1 a2_2 a2_3 = some (r1, r2, r3)) :
  Calls Try.prog 25 #[.int .i64 a0, .agg #[.int .i64 a1_0, .int .i64 a1_1, .int .i64 a1_2], .agg #[.int .i64 a2_0, .int .i64 a2_1, .int .i64 a2_2, .int .i64 a2_3]] w fun e w' => e = .returned (.tuple #[.agg #[.int .i64 r1, .int .i64 r2], .int .i64 r3]) ∧ Below w.heap.size w w' := by
 have hu31 := Try.underlying31
 have hu33 := Try.underlying33
 have hu34 := Try.underlying34
 have HB := Aside0.mk (Below.refl w.heap.size w)
 have H : ((impl_mirrorCode.f k a0 a1_0 a1_1 a1_2 a2_0 a2_1 a2_2 a2_3).bind fun t610 => (if t610 = 0 then ((impl_Mat_axis.f k a2_0 a2_1 a2_2 a2_3).bind fun bt611 => ((impl_Lattice_multipleIn.f k a1_0 a1_1 a1_2 bt611.1 bt611.2).bind fun bt613 => (some (bt613.1, bt613.2, 0)))) else (some (0, 0, t610)))) = some (r1, r2, r3) := h
 clear h
 replace H := Option.bind_eq_some_iff.mp H
 obtain ⟨t610, A40, H⟩ := H
 replace H : (if t610 = 0 then ((impl_Mat_axis.f k a2_0 a2_1 a2_2 a2_3).bind fun bt611 => ((impl_Lattice_multipleIn.f k a1_0 a1_1 a1_2 bt611.1 bt611.2).bind fun bt613 => (some (bt613.1, bt613.2, 0)))) else (some (0, 0, t610))) = some (r1, r2, r3) := H
 have A4 := Aside0.mk A40
 clear A40
 by_cases c5 : t610 = 0
 ·rw [if_pos c5] at H
  have c5b0 : (t610 == 0) = true := beq_iff_eq.mpr c5
  have c5b1 : (t610 != 0) = false := bne_eq_false_iff_eq.mpr c5
  clear c5
  replace H := Option.bind_eq_some_iff.mp H
  obtain ⟨⟨t611, t612⟩, A60, H⟩ := H
  replace H : ((impl_Lattice_multipleIn.f k a1_0 a1_1 a1_2 t611 t612).bind fun bt613 => (some (bt613.1, bt613.2, 0))) = some (r1, r2, r3) := H
  have A6 := Aside0.mk A60
  clear A60
  replace H := Option.bind_eq_some_iff.mp H
  obtain ⟨⟨t613, t614⟩, A70, H⟩ := H
  replace H : (some (t613, t614, 0)) = some (r1, r2, r3) := H
  have A7 := Aside0.mk A70
  clear A70
  simp only [Option.some.injEq, Prod.mk.injEq] at H
  obtain ⟨rfl, rfl, rfl⟩ := H
  go_enter Try.func25, Try.ntmps25
  try go_wp2_with (first | ((with_reducible refine gate_dst (N := 4) rfl ?_); refine box_event ?hg (N := 4) ?hd (cs := #[.int .i64 a1_0, .int .i64 a1_1, .int .i64 a1_2]) (t := 31) ?hr ?_; (case hd => rfl); (case hg => rfl); (case hr => first | (go_simp; done) | (go_simp; rfl)); intro gb607 hg w8 hbox hb; have n0_ := Aside0.mk (bst0 HB hb); have n1_ := Aside0.mk (hbox); have n2_ := ngw0 hg HB; have n3_ := n2_; clear HB; have HB := n0_; have BK607 := n1_; have GW607 := n2_; have GE607 := n3_; clear n0_ n1_ n2_ n3_; clear hb hbox hg) | ((with_reducible refine gate_dst (N := 5) rfl ?_); refine box_event ?hg (N := 5) ?hd (cs := #[.int .i64 a2_0, .int .i64 a2_1, .int .i64 a2_2, .int .i64 a2_3]) (t := 33) ?hr ?_; (case hd => rfl); (case hg => rfl); (case hr => first | (go_simp; done) | (go_simp; rfl)); intro gb608 hg w9 hbox hb; have n0_ := Aside0.mk (bbl BK607 hb); have n1_ := Aside0.mk (bst1 HB GE607 hb); have n2_ := Aside0.mk (hbox); have n3_ := ngw1 hg HB GE607; have n4_ := n3_; have n5_ := nlt hg BK607; have n6_ := nsy (nlt hg BK607); clear BK607; clear HB; have BK607 := n0_; have HB := n1_; have BK608 := n2_; have GW608 := n3_; have GE608 := n4_; have NB607_608 := n5_; have NB608_607 := n6_; clear n0_ n1_ n2_ n3_ n4_ n5_ n6_; clear hb hbox hg) | ((with_reducible refine gate_dst (N := 6) rfl ?_); refine box_event ?hg (N := 6) ?hd (cs := #[.int .i64 0, .int .i64 0]) (t := 34) ?hr ?_; (case hd => rfl); (case hg => rfl); (case hr => first | (go_simp; done) | (go_simp; rfl)); intro gb609 hg w10 hbox hb; have n0_ := Aside0.mk (bbl BK607 hb); have n1_ := Aside0.mk (bbl BK608 hb); have n2_ := Aside0.mk (bst2 HB GE607 GE608 hb); have n3_ := Aside0.mk (hbox); have n4_ := ngw2 hg HB GE607 GE608; have n5_ := n4_; have n6_ := nlt hg BK607; have n7_ := nsy (nlt hg BK607); have n8_ := nlt hg BK608; have n9_ := nsy (nlt hg BK608); clear BK607; clear BK608; clear HB; have BK607 := n0_; have BK608 := n1_; have HB := n2_; have BK609 := n3_; have GW609 := n4_; have GE609 := n5_; have NB607_609 := n6_; have NB609_607 := n7_; have NB608_609 := n8_; have NB609_608 := n9_; clear n0_ n1_ n2_ n3_ n4_ n5_ n6_ n7_ n8_ n9_; clear hb hbox hg; have hnb11 := NB607_608.out; have hnc11 := NB608_607.out; have hnb12 := NB607_609.out; have hnc12 := NB609_607.out; have hcz13_0 : w10.cell? ⟨gb607, 0, none⟩ = some (.int .i64 a1_0) := bcl BK607 0; have hcz13_1 : w10.cell? ⟨gb607, 1, none⟩ = some (.int .i64 a1_1) := bcl BK607 1; have hcz13_2 : w10.cell? ⟨gb607, 2, none⟩ = some (.int .i64 a1_2) := bcl BK607 2; have hfz13_0 := blk_frozen BK607.out 0; have hfz13_1 := blk_frozen BK607.out 1; have hfz13_2 := blk_frozen BK607.out 2; have hnb14 := NB608_609.out; have hnc14 := NB609_608.out; have hcz15_0 : w10.cell? ⟨gb608, 0, none⟩ = some (.int .i64 a2_0) := bcl BK608 0; have hcz15_1 : w10.cell? ⟨gb608, 1, none⟩ = some (.int .i64 a2_1) := bcl BK608 1; have hcz15_2 : w10.cell? ⟨gb608, 2, none⟩ = some (.int .i64 a2_2) := bcl BK608 2; have hcz15_3 : w10.cell? ⟨gb608, 3, none⟩ = some (.int .i64 a2_3) := bcl BK608 3; have hfz15_0 := blk_frozen BK608.out 0; have hfz15_1 := blk_frozen BK608.out 1; have hfz15_2 := blk_frozen BK608.out 2; have hfz15_3 := blk_frozen BK608.out 3) | ((with_reducible refine gate_callee (f := 53) rfl ?_); refine goesL_ (some 12) rfl rfl Try.func53 (by kernel_rfl) rfl #[.int .i64 a0, .agg #[.int .i64 a1_0, .int .i64 a1_1, .int .i64 a1_2], .agg #[.int .i64 a2_0, .int .i64 a2_1, .int .i64 a2_2, .int .i64 a2_3]] rfl (by (try simp only [List.map_toArray, List.map_cons, List.map_nil]); first | done | rfl | (simp only [List.length_drop, List.length_take]; rfl)) ?_; (with_reducible refine (impl_mirrorCode.calls k a0 a1_0 a1_1 a1_2 a2_0 a2_1 a2_2 a2_3 t610 _ A4.out).mono ?_); rintro e w16 ⟨rfl, hb⟩; refine ⟨_, rfl, ?_⟩; have n0_ := Aside0.mk (bbl BK607 hb); have n1_ := Aside0.mk (bbl BK608 hb); have n2_ := Aside0.mk (bbl BK609 hb); have n3_ := Aside0.mk (bst3 HB GE607 GE608 GE609 hb); clear BK607; clear BK608; clear BK609; clear HB; have BK607 := n0_; have BK608 := n1_; have BK609 := n2_; have HB := n3_; clear n0_ n1_ n2_ n3_; (try clear hb); (try clear hb2); (try clear hk); (try clear hi)))
  have n0_ := Aside0.mk (blk_drew BK607.out)
  have n1_ := Aside0.mk (blk_drew BK608.out)
  have n2_ := Aside0.mk (blk_drew BK609.out)
  have n3_ := Aside0.mk (below_drew1 HB.out)
  clear BK607
  clear BK608
  clear BK609
  clear HB
  have BK607 := n0_
  have BK608 := n1_
  have BK609 := n2_
  have HB := n3_
  clear n0_ n1_ n2_ n3_
  refine start_ (n := 6) (S := fun w' => w'.cell? ⟨gb607, 0, none⟩ = some (.int .i64 a1_0) ∧ w'.cell? ⟨gb607, 1, none⟩ = some (.int .i64 a1_1) ∧ w'.cell? ⟨gb607, 2, none⟩ = some (.int .i64 a1_2) ∧ w'.cell? ⟨gb608, 0, none⟩ = some (.int .i64 a2_0) ∧ w'.cell? ⟨gb608, 1, none⟩ = some (.int .i64 a2_1) ∧ w'.cell? ⟨gb608, 2, none⟩ = some (.int .i64 a2_2) ∧ w'.cell? ⟨gb608, 3, none⟩ = some (.int .i64 a2_3)) (ds := []) #[false, false, false, false, false, false] (by kernel_rfl) rfl rfl ⟨bcl BK607 0, bcl BK607 1, bcl BK607 2, bcl BK608 0, bcl BK608 1, bcl BK608 2, bcl BK608 3⟩ (fun hHeld => ?_)
  generalize w16.drew = w17 at BK607 BK608 BK609 HB hHeld ⊢
  refine take_ (i := 0) (N := some 17) (v := ?_) (a' := ?_) #[true, false, false, false, false, false] rfl rfl (by kernel_rfl) (fun _ _ _ h => h) (Or.inl ⟨by rfl, ?_⟩) hHeld ?_ ?_
  rotate_left
  ·rintro w' ⟨s0, s1, s2, s3, s4, s5, s6⟩
   go_simp
   with_reducible rfl
  rotate_left
  ·simp only [Act.put, sA, sB, sC, i64_w, i32_w]
   rfl
  refine take_ (i := 1) (N := some 18) (v := ?_) (a' := ?_) #[true, true, false, false, false, false] rfl rfl (by kernel_rfl) (fun _ _ _ h => h) (Or.inl ⟨by rfl, ?_⟩) hHeld ?_ ?_
  rotate_left
  ·rintro w' ⟨s0, s1, s2, s3, s4, s5, s6⟩
   go_simp
   with_reducible rfl
  rotate_left
  ·simp only [Act.put, sA, sB, sC, i64_w, i32_w]
   rfl
  refine one_ (i := 2) (N := some 19) #[true, true, true, false, false, false] rfl rfl (by kernel_rfl) (by decide) (fun K hK => ?_)
  refine goes_ Try.func55 (by kernel_rfl) rfl #[.agg #[.int .i64 a2_0, .int .i64 a2_1, .int .i64 a2_2, .int .i64 a2_3]] (by rfl) rfl rfl (by (try simp only [List.map_toArray, List.map_cons, List.map_nil]); first | done | rfl | (simp only [List.length_drop, List.length_take]; rfl)) ?_
  with_reducible refine (impl_Mat_axis.calls k a2_0 a2_1 a2_2 a2_3 t611 t612 _ A6.out).mono ?_
  rintro e w18 ⟨rfl, hb⟩
  refine ⟨_, rfl, ?_⟩
  have n0_ := Aside0.mk (bbl BK607 hb)
  have n1_ := Aside0.mk (bbl BK608 hb)
  have n2_ := Aside0.mk (bbl BK609 hb)
  have n3_ := Aside0.mk (bst3 HB GE607 GE608 GE609 hb)
  clear BK607
  clear BK608
  clear BK609
  clear HB
  have BK607 := n0_
  have BK608 := n1_
  have BK609 := n2_
  have HB := n3_
  clear n0_ n1_ n2_ n3_
  (try clear hb)
  (try clear hb2)
  (try clear hk)
  (try clear hi)
  refine hK.out _ _ ⟨bcl BK607 0, bcl BK607 1, bcl BK607 2, bcl BK608 0, bcl BK608 1, bcl BK608 2, bcl BK608 3⟩ (fun hHeld => ?_)
  clear hK K
  refine norm_ (a' := ?_) ?_ ?_
  rotate_left
  ·show Act.put _ (some 19) _ = _
   simp only [Act.put, sA, sB, sC, i64_w, i32_w]
   rfl
  refine one_ (i := 3) (N := some 20) #[true, true, true, true, false, false] rfl rfl (by kernel_rfl) (by decide) (fun K hK => ?_)
  refine goes_ Try.func54 (by kernel_rfl) rfl #[.agg #[.int .i64 a1_0, .int .i64 a1_1, .int .i64 a1_2], .agg #[.int .i64 t611, .int .i64 t612]] (by rfl) rfl rfl (by (try simp only [List.map_toArray, List.map_cons, List.map_nil]); first | done | rfl | (simp only [List.length_drop, List.length_take]; rfl)) ?_
  with_reducible refine (impl_Lattice_multipleIn.calls k a1_0 a1_1 a1_2 t611 t612 t613 t614 _ A7.out).mono ?_
  rintro e w19 ⟨rfl, hb⟩
  refine ⟨_, rfl, ?_⟩
  have n0_ := Aside0.mk (bbl BK607 hb)
  have n1_ := Aside0.mk (bbl BK608 hb)
  have n2_ := Aside0.mk (bbl BK609 hb)
  have n3_ := Aside0.mk (bst3 HB GE607 GE608 GE609 hb)
  clear BK607
  clear BK608
  clear BK609
  clear HB
  have BK607 := n0_
  have BK608 := n1_
  have BK609 := n2_
  have HB := n3_
  clear n0_ n1_ n2_ n3_
  (try clear hb)
  (try clear hb2)
  (try clear hk)
  (try clear hi)
  refine hK.out _ _ ⟨bcl BK607 0, bcl BK607 1, bcl BK607 2, bcl BK608 0, bcl BK608 1, bcl BK608 2, bcl BK608 3⟩ (fun hHeld => ?_)
  clear hK K
  refine norm_ (a' := ?_) ?_ ?_
  rotate_left
  ·show Act.put _ (some 20) _ = _
   simp only [Act.put, sA, sB, sC, i64_w, i32_w]
   rfl
  refine one_ (i := 4) (N := none) #[true, true, true, true, true, false] rfl rfl (by kernel_rfl) (by decide) (fun K hK => ?_)
  have hs20 : w19.cell? ⟨gb609, 0, none⟩ = some (.int .i64 0) := bcl BK609 0
  have hfs20 := blk_frozen BK609.out 0
  have hns20_0 := NB607_609.out
  have hns20_1 := NB608_609.out
  have hms20_0 := NB609_607.out
  have hms20_1 := NB609_608.out
  have hs21 : w19.cell? ⟨gb609, 1, none⟩ = some (.int .i64 0) := bcl BK609 1
  have hfs21 := blk_frozen BK609.out 1
  have hns21_0 := NB607_609.out
  have hns21_1 := NB608_609.out
  have hms21_0 := NB609_607.out
  have hms21_1 := NB609_608.out
  refine skip_ (w1 := ?_) (by rfl) rfl ?_ ?_
  rotate_left
  ·go_simp
   rfl
  refine hK.out _ _ ⟨((cell_far (p := ⟨gb609, _, none⟩) NB607_609.out _).trans (((cell_far (p := ⟨gb609, _, none⟩) NB607_609.out _).trans (hHeld.1)))), ((cell_far (p := ⟨gb609, _, none⟩) NB607_609.out _).trans (((cell_far (p := ⟨gb609, _, none⟩) NB607_609.out _).trans (hHeld.2.1)))), ((cell_far (p := ⟨gb609, _, none⟩) NB607_609.out _).trans (((cell_far (p := ⟨gb609, _, none⟩) NB607_609.out _).trans (hHeld.2.2.1)))), ((cell_far (p := ⟨gb609, _, none⟩) NB608_609.out _).trans (((cell_far (p := ⟨gb609, _, none⟩) NB608_609.out _).trans (hHeld.2.2.2.1)))), ((cell_far (p := ⟨gb609, _, none⟩) NB608_609.out _).trans (((cell_far (p := ⟨gb609, _, none⟩) NB608_609.out _).trans (hHeld.2.2.2.2.1)))), ((cell_far (p := ⟨gb609, _, none⟩) NB608_609.out _).trans (((cell_far (p := ⟨gb609, _, none⟩) NB608_609.out _).trans (hHeld.2.2.2.2.2.1)))), ((cell_far (p := ⟨gb609, _, none⟩) NB608_609.out _).trans (((cell_far (p := ⟨gb609, _, none⟩) NB608_609.out _).trans (hHeld.2.2.2.2.2.2))))⟩ (fun hHeld => ?_)
  clear hK K
  refine pure_ (i := 5) (N := some 7) (v := ?_) (a' := ?_) #[true, true, true, true, true, true] rfl rfl (by kernel_rfl) (fun _ _ _ h => h) (Or.inl ⟨by rfl, ?_⟩) ?_ ?_
  rotate_left
  ·intro w'
   go_simp
   with_reducible rfl
  rotate_left
  ·simp only [Act.put, sA, sB, sC, i64_w, i32_w]
   rfl
  refine done_ (by kernel_rfl) ?_
  try go_wp2
  refine bodyPost_ret (results_ct rfl _ _ gb609 34 #[.int .i64 t613, .int .i64 t614] (0, 0) _ rfl (by (with_reducible repeat (first | refine blk_drewN ?_ _ | refine blk_drew ?_ | refine blk_alloc ?_ _)); refine blk_put (cs := #[.int .i64 t613, .int .i64 0]) ?_ 1 _ rfl; (with_reducible repeat (first | refine blk_drewN ?_ _ | refine blk_drew ?_ | refine blk_alloc ?_ _)); refine blk_put (cs := #[.int .i64 0, .int .i64 0]) ?_ 0 _ rfl; (with_reducible repeat (first | refine blk_drewN ?_ _ | refine blk_drew ?_ | refine blk_alloc ?_ _)); exact BK609.out) Try.underlying34 rfl (by kernel_rfl)) rfl ?_
  exact ⟨by first | rfl | (simp [errW_none, errW_some] <;> rfl) | (simp [*, errW_none, errW_some] <;> rfl), bbw3 HB GE607 GE608 GE609⟩
 ·rw [if_neg c5] at H
  have c5b0 : (t610 == 0) = false := beq_eq_false_iff_ne.mpr c5
  have c5b1 : (t610 != 0) = true := bne_iff_ne.mpr c5
  simp only [Option.some.injEq, Prod.mk.injEq] at H
  obtain ⟨rfl, rfl, rfl⟩ := H
  go_enter Try.func25, Try.ntmps25
  go_wp2_with (first | ((with_reducible refine gate_dst (N := 4) rfl ?_); refine box_event ?hg (N := 4) ?hd (cs := #[.int .i64 a1_0, .int .i64 a1_1, .int .i64 a1_2]) (t := 31) ?hr ?_; (case hd => rfl); (case hg => rfl); (case hr => first | (go_simp; done) | (go_simp; rfl)); intro gb607 hg w22 hbox hb; have n0_ := Aside0.mk (bst0 HB hb); have n1_ := Aside0.mk (hbox); have n2_ := ngw0 hg HB; have n3_ := n2_; clear HB; have HB := n0_; have BK607 := n1_; have GW607 := n2_; have GE607 := n3_; clear n0_ n1_ n2_ n3_; clear hb hbox hg) | ((with_reducible refine gate_dst (N := 5) rfl ?_); refine box_event ?hg (N := 5) ?hd (cs := #[.int .i64 a2_0, .int .i64 a2_1, .int .i64 a2_2, .int .i64 a2_3]) (t := 33) ?hr ?_; (case hd => rfl); (case hg => rfl); (case hr => first | (go_simp; done) | (go_simp; rfl)); intro gb608 hg w23 hbox hb; have n0_ := Aside0.mk (bbl BK607 hb); have n1_ := Aside0.mk (bst1 HB GE607 hb); have n2_ := Aside0.mk (hbox); have n3_ := ngw1 hg HB GE607; have n4_ := n3_; have n5_ := nlt hg BK607; have n6_ := nsy (nlt hg BK607); clear BK607; clear HB; have BK607 := n0_; have HB := n1_; have BK608 := n2_; have GW608 := n3_; have GE608 := n4_; have NB607_608 := n5_; have NB608_607 := n6_; clear n0_ n1_ n2_ n3_ n4_ n5_ n6_; clear hb hbox hg) | ((with_reducible refine gate_dst (N := 6) rfl ?_); refine box_event ?hg (N := 6) ?hd (cs := #[.int .i64 0, .int .i64 0]) (t := 34) ?hr ?_; (case hd => rfl); (case hg => rfl); (case hr => first | (go_simp; done) | (go_simp; rfl)); intro gb609 hg w24 hbox hb; have n0_ := Aside0.mk (bbl BK607 hb); have n1_ := Aside0.mk (bbl BK608 hb); have n2_ := Aside0.mk (bst2 HB GE607 GE608 hb); have n3_ := Aside0.mk (hbox); have n4_ := ngw2 hg HB GE607 GE608; have n5_ := n4_; have n6_ := nlt hg BK607; have n7_ := nsy (nlt hg BK607); have n8_ := nlt hg BK608; have n9_ := nsy (nlt hg BK608); clear BK607; clear BK608; clear HB; have BK607 := n0_; have BK608 := n1_; have HB := n2_; have BK609 := n3_; have GW609 := n4_; have GE609 := n5_; have NB607_609 := n6_; have NB609_607 := n7_; have NB608_609 := n8_; have NB609_608 := n9_; clear n0_ n1_ n2_ n3_ n4_ n5_ n6_ n7_ n8_ n9_; clear hb hbox hg; have hnb25 := NB607_608.out; have hnc25 := NB608_607.out; have hnb26 := NB607_609.out; have hnc26 := NB609_607.out; have hcz27_0 : w24.cell? ⟨gb607, 0, none⟩ = some (.int .i64 a1_0) := bcl BK607 0; have hcz27_1 : w24.cell? ⟨gb607, 1, none⟩ = some (.int .i64 a1_1) := bcl BK607 1; have hcz27_2 : w24.cell? ⟨gb607, 2, none⟩ = some (.int .i64 a1_2) := bcl BK607 2; have hfz27_0 := blk_frozen BK607.out 0; have hfz27_1 := blk_frozen BK607.out 1; have hfz27_2 := blk_frozen BK607.out 2; have hnb28 := NB608_609.out; have hnc28 := NB609_608.out; have hcz29_0 : w24.cell? ⟨gb608, 0, none⟩ = some (.int .i64 a2_0) := bcl BK608 0; have hcz29_1 : w24.cell? ⟨gb608, 1, none⟩ = some (.int .i64 a2_1) := bcl BK608 1; have hcz29_2 : w24.cell? ⟨gb608, 2, none⟩ = some (.int .i64 a2_2) := bcl BK608 2; have hcz29_3 : w24.cell? ⟨gb608, 3, none⟩ = some (.int .i64 a2_3) := bcl BK608 3; have hfz29_0 := blk_frozen BK608.out 0; have hfz29_1 := blk_frozen BK608.out 1; have hfz29_2 := blk_frozen BK608.out 2; have hfz29_3 := blk_frozen BK608.out 3) | ((with_reducible refine gate_callee (f := 53) rfl ?_); refine goesL_ (some 12) rfl rfl Try.func53 (by kernel_rfl) rfl #[.int .i64 a0, .agg #[.int .i64 a1_0, .int .i64 a1_1, .int .i64 a1_2], .agg #[.int .i64 a2_0, .int .i64 a2_1, .int .i64 a2_2, .int .i64 a2_3]] rfl (by (try simp only [List.map_toArray, List.map_cons, List.map_nil]); first | done | rfl | (simp only [List.length_drop, List.length_take]; rfl)) ?_; (with_reducible refine (impl_mirrorCode.calls k a0 a1_0 a1_1 a1_2 a2_0 a2_1 a2_2 a2_3 t610 _ A4.out).mono ?_); rintro e w30 ⟨rfl, hb⟩; refine ⟨_, rfl, ?_⟩; have n0_ := Aside0.mk (bbl BK607 hb); have n1_ := Aside0.mk (bbl BK608 hb); have n2_ := Aside0.mk (bbl BK609 hb); have n3_ := Aside0.mk (bst3 HB GE607 GE608 GE609 hb); clear BK607; clear BK608; clear BK609; clear HB; have BK607 := n0_; have BK608 := n1_; have BK609 := n2_; have HB := n3_; clear n0_ n1_ n2_ n3_; (try clear hb); (try clear hb2); (try clear hk); (try clear hi); have hcz31_0 : w30.cell? ⟨gb609, 0, none⟩ = some (.int .i64 0) := bcl BK609 0; have hcz31_1 : w30.cell? ⟨gb609, 1, none⟩ = some (.int .i64 0) := bcl BK609 1; have hfz31_0 := blk_frozen BK609.out 0; have hfz31_1 := blk_frozen BK609.out 1))
  refine bodyPost_ret (results_ct rfl _ _ gb609 34 #[.int .i64 0, .int .i64 0] (0, 0) _ rfl (by (with_reducible repeat (first | refine blk_drewN ?_ _ | refine blk_drew ?_ | refine blk_alloc ?_ _)); refine blk_put (cs := #[.int .i64 0, .int .i64 0]) ?_ 1 _ rfl; (with_reducible repeat (first | refine blk_drewN ?_ _ | refine blk_drew ?_ | refine blk_alloc ?_ _)); refine blk_put (cs := #[.int .i64 0, .int .i64 0]) ?_ 0 _ rfl; (with_reducible repeat (first | refine blk_drewN ?_ _ | refine blk_drew ?_ | refine blk_alloc ?_ _)); exact BK609.out) Try.underlying34 rfl (by kernel_rfl)) rfl ?_
  exact ⟨by first | rfl | (simp [errW_none, errW_some] <;> rfl) | (simp [*, errW_none, errW_some] <;> rfl), bbw3 HB GE607 GE608 GE609⟩

/-! ### laws_FnExactInvariantVec: function 6 -/
def laws_FnExactInvariantVec.f (k : Nat) (a0 : Int) (a1_0 : Int) (a1_1 : Int) (a1_2 : Int) (a2_0 : Int) (a2_1 : Int) (a2_2 : Int) (a2_3 : Int) : Option (Bool) := (laws_toLattice.f a1_0 a1_1 a1_2).bind fun bt617 => ((laws_toMat.f a2_0 a2_1 a2_2 a2_3).bind fun bt620 => ((spec_InvariantVec.f k a0 bt617.1 bt617.2.1 bt617.2.2 bt620.1 bt620.2.1 bt620.2.2.1 bt620.2.2.2).bind fun bt624 => ((laws_toLattice.f a1_0 a1_1 a1_2).bind fun bt628 => ((laws_toMat.f a2_0 a2_1 a2_2 a2_3).bind fun bt631 => ((impl_InvariantVec.f k a0 bt628.1 bt628.2.1 bt628.2.2 bt631.1 bt631.2.1 bt631.2.2.1 bt631.2.2.2).bind fun bt635 => ((laws_eqVec.f bt635.1 bt635.2.1 bt624.1 bt624.2.1).bind fun t639 => (if t639 = true then (if bt635.2.2 = bt624.2.2 then (some true) else (some false)) else (some false))))))))
def laws_FnExactInvariantVec.T1 : Bool × List (List Nat × List Nat) := (true, [([], []), ([], []), ([1], [1]), ([], []), ([3, 2], [3]), ([0, 2, 4, 4], [0, 2, 4]), ([5], [5]), ([6], [6]), ([6], [6]), ([], []), ([9, 7, 5, 0, 1, 2, 3, 4, 5, 6, 7, 9], [7, 9]), ([8, 10, 0, 1, 2, 3, 4, 5, 6, 7, 8, 9, 10], [8])])
def laws_FnExactInvariantVec.B1 : List Nat := [0, 0, 2, 0, 14, 31, 63, 127, 127, 0, 767, 2047]
theorem laws_FnExactInvariantVec.tab1 : rtab .any (opsOf Try.f6 1) = laws_FnExactInvariantVec.T1 := by kernel_rfl
theorem laws_FnExactInvariantVec.bits1 : waitsOk laws_FnExactInvariantVec.T1.2 laws_FnExactInvariantVec.B1 = true := by kernel_rfl
def laws_FnExactInvariantVec.T2 : Bool × List (List Nat × List Nat) := (true, [([], []), ([], []), ([1], [1]), ([], []), ([3, 2], [3]), ([0, 2, 4, 4], [0, 2, 4]), ([5], [5]), ([6], [6]), ([6], [6]), ([], []), ([9, 7, 5, 0, 1, 2, 3, 4, 5, 6, 7, 9], [7, 9]), ([8, 10, 0, 1, 2, 3, 4, 5, 6, 7, 8, 9, 10], [8])])
def laws_FnExactInvariantVec.B2 : List Nat := [0, 0, 2, 0, 14, 31, 63, 127, 127, 0, 767, 2047]
theorem laws_FnExactInvariantVec.tab2 : rtab .any (opsOf Try.f6 2) = laws_FnExactInvariantVec.T2 := by kernel_rfl
theorem laws_FnExactInvariantVec.bits2 : waitsOk laws_FnExactInvariantVec.T2.2 laws_FnExactInvariantVec.B2 = true := by kernel_rfl
set_option maxHeartbeats 8000000 in
set_option maxRecDepth 100000 in
theorem laws_FnExactInvariantVec.calls (k : Nat) (a0 : Int) (a1_0 : Int) (a1_1 : Int) (a1_2 : Int) (a2_0 : Int) (a2_1 : Int) (a2_2 : Int) (a2_3 : Int) (w : World) (h : laws_FnExactInvariantVec.f k a0 a1_0 a1_1 a1_2 a2_0 a2_1 a2_2 a2_3 = some true) :
  Calls Try.prog 6 #[.int .i64 a0, .agg #[.int .i64 a1_0, .int .i64 a1_1, .int .i64 a1_2], .agg #[.int .i64 a2_0, .int .i64 a2_1, .int .i64 a2_2, .int .i64 a2_3]] w fun e w' => e = .returned (.bool true) ∧ Below w.heap.size w w' := by
 have hu23 := Try.underlying23
 have hu25 := Try.underlying25
 have hu34 := Try.underlying34
 have HB := Aside0.mk (Below.refl w.heap.size w)
 have H : ((laws_toLattice.f a1_0 a1_1 a1_2).bind fun bt617 => ((laws_toMat.f a2_0 a2_1 a2_2 a2_3).bind fun bt620 => ((spec_InvariantVec.f k a0 bt617.1 bt617.2.1 bt617.2.2 bt620.1 bt620.2.1 bt620.2.2.1 bt620.2.2.2).bind fun bt624 => ((laws_toLattice.f a1_0 a1_1 a1_2).bind fun bt628 => ((laws_toMat.f a2_0 a2_1 a2_2 a2_3).bind fun bt631 => ((impl_InvariantVec.f k a0 bt628.1 bt628.2.1 bt628.2.2 bt631.1 bt631.2.1 bt631.2.2.1 bt631.2.2.2).bind fun bt635 => ((laws_eqVec.f bt635.1 bt635.2.1 bt624.1 bt624.2.1).bind fun t639 => (if t639 = true then (if bt635.2.2 = bt624.2.2 then (some true) else (some false)) else (some false))))))))) = some true := h
 clear h
 replace H := Option.bind_eq_some_iff.mp H
 obtain ⟨⟨t617, t618, t619⟩, A40, H⟩ := H
 replace H : ((laws_toMat.f a2_0 a2_1 a2_2 a2_3).bind fun bt620 => ((spec_InvariantVec.f k a0 t617 t618 t619 bt620.1 bt620.2.1 bt620.2.2.1 bt620.2.2.2).bind fun bt624 => ((laws_toLattice.f a1_0 a1_1 a1_2).bind fun bt628 => ((laws_toMat.f a2_0 a2_1 a2_2 a2_3).bind fun bt631 => ((impl_InvariantVec.f k a0 bt628.1 bt628.2.1 bt628.2.2 bt631.1 bt631.2.1 bt631.2.2.1 bt631.2.2.2).bind fun bt635 => ((laws_eqVec.f bt635.1 bt635.2.1 bt624.1 bt624.2.1).bind fun t639 => (if t639 = true then (if bt635.2.2 = bt624.2.2 then (some true) else (some false)) else (some false)))))))) = some true := H
 have A4 := Aside0.mk A40
 clear A40
 replace H := Option.bind_eq_some_iff.mp H
 obtain ⟨⟨t620, t621, t622, t623⟩, A50, H⟩ := H
 replace H : ((spec_InvariantVec.f k a0 t617 t618 t619 t620 t621 t622 t623).bind fun bt624 => ((laws_toLattice.f a1_0 a1_1 a1_2).bind fun bt628 => ((laws_toMat.f a2_0 a2_1 a2_2 a2_3).bind fun bt631 => ((impl_InvariantVec.f k a0 bt628.1 bt628.2.1 bt628.2.2 bt631.1 bt631.2.1 bt631.2.2.1 bt631.2.2.2).bind fun bt635 => ((laws_eqVec.f bt635.1 bt635.2.1 bt624.1 bt624.2.1).bind fun t639 => (if t639 = true then (if bt635.2.2 = bt624.2.2 then (some true) else (some false)) else (some false))))))) = some true := H
 have A5 := Aside0.mk A50
 clear A50
 replace H := Option.bind_eq_some_iff.mp H
 obtain ⟨⟨t624, t625, t626⟩, A60, H⟩ := H
 replace H : ((laws_toLattice.f a1_0 a1_1 a1_2).bind fun bt628 => ((laws_toMat.f a2_0 a2_1 a2_2 a2_3).bind fun bt631 => ((impl_InvariantVec.f k a0 bt628.1 bt628.2.1 bt628.2.2 bt631.1 bt631.2.1 bt631.2.2.1 bt631.2.2.2).bind fun bt635 => ((laws_eqVec.f bt635.1 bt635.2.1 t624 t625).bind fun t639 => (if t639 = true then (if bt635.2.2 = t626 then (some true) else (some false)) else (some false)))))) = some true := H
 have A6 := Aside0.mk A60
 clear A60
 replace H := Option.bind_eq_some_iff.mp H
 obtain ⟨⟨t628, t629, t630⟩, A70, H⟩ := H
 replace H : ((laws_toMat.f a2_0 a2_1 a2_2 a2_3).bind fun bt631 => ((impl_InvariantVec.f k a0 t628 t629 t630 bt631.1 bt631.2.1 bt631.2.2.1 bt631.2.2.2).bind fun bt635 => ((laws_eqVec.f bt635.1 bt635.2.1 t624 t625).bind fun t639 => (if t639 = true then (if bt635.2.2 = t626 then (some true) else (some false)) else (some false))))) = some true := H
 have A7 := Aside0.mk A70
 clear A70
 replace H := Option.bind_eq_some_iff.mp H
 obtain ⟨⟨t631, t632, t633, t634⟩, A80, H⟩ := H
 replace H : ((impl_InvariantVec.f k a0 t628 t629 t630 t631 t632 t633 t634).bind fun bt635 => ((laws_eqVec.f bt635.1 bt635.2.1 t624 t625).bind fun t639 => (if t639 = true then (if bt635.2.2 = t626 then (some true) else (some false)) else (some false)))) = some true := H
 have A8 := Aside0.mk A80
 clear A80
 replace H := Option.bind_eq_some_iff.mp H
 obtain ⟨⟨t635, t636, t637⟩, A90, H⟩ := H
 replace H : ((laws_eqVec.f t635 t636 t624 t625).bind fun t639 => (if t639 = true then (if t637 = t626 then (some true) else (some false)) else (some false))) = some true := H
 have A9 := Aside0.mk A90
 clear A90
 replace H := Option.bind_eq_some_iff.mp H
 obtain ⟨t639, A100, H⟩ := H
 replace H : (if t639 = true then (if t637 = t626 then (some true) else (some false)) else (some false)) = some true := H
 have A10 := Aside0.mk A100
 clear A100
 by_cases c11 : t639 = true
 ·subst c11
  have H1 : (if t637 = t626 then (some true) else (some false)) = some true := by rw [if_pos rfl] at H; first | done | exact H
  clear H
  have H := H1
  clear H1
  by_cases c12 : t637 = t626
  ·rw [if_pos c12] at H
   have c12b0 : (t637 == t626) = true := beq_iff_eq.mpr c12
   have c12b1 : (t637 != t626) = false := bne_eq_false_iff_eq.mpr c12
   clear c12
   clear H
   go_enter Try.func6, Try.ntmps6
   try go_wp2_with (first | ((with_reducible refine gate_dst (N := 4) rfl ?_); refine box_event ?hg (N := 4) ?hd (cs := #[.int .i64 a1_0, .int .i64 a1_1, .int .i64 a1_2]) (t := 23) ?hr ?_; (case hd => rfl); (case hg => rfl); (case hr => first | (go_simp; done) | (go_simp; rfl)); intro gb615 hg w13 hbox hb; have n0_ := Aside0.mk (bst0 HB hb); have n1_ := Aside0.mk (hbox); have n2_ := ngw0 hg HB; have n3_ := n2_; clear HB; have HB := n0_; have BK615 := n1_; have GW615 := n2_; have GE615 := n3_; clear n0_ n1_ n2_ n3_; clear hb hbox hg) | ((with_reducible refine gate_dst (N := 5) rfl ?_); refine box_event ?hg (N := 5) ?hd (cs := #[.int .i64 a2_0, .int .i64 a2_1, .int .i64 a2_2, .int .i64 a2_3]) (t := 25) ?hr ?_; (case hd => rfl); (case hg => rfl); (case hr => first | (go_simp; done) | (go_simp; rfl)); intro gb616 hg w14 hbox hb; have n0_ := Aside0.mk (bbl BK615 hb); have n1_ := Aside0.mk (bst1 HB GE615 hb); have n2_ := Aside0.mk (hbox); have n3_ := ngw1 hg HB GE615; have n4_ := n3_; have n5_ := nlt hg BK615; have n6_ := nsy (nlt hg BK615); clear BK615; clear HB; have BK615 := n0_; have HB := n1_; have BK616 := n2_; have GW616 := n3_; have GE616 := n4_; have NB615_616 := n5_; have NB616_615 := n6_; clear n0_ n1_ n2_ n3_ n4_ n5_ n6_; clear hb hbox hg))
   have n0_ := Aside0.mk (blk_drew BK615.out)
   have n1_ := Aside0.mk (blk_drew BK616.out)
   have n2_ := Aside0.mk (below_drew1 HB.out)
   clear BK615
   clear BK616
   clear HB
   have BK615 := n0_
   have BK616 := n1_
   have HB := n2_
   clear n0_ n1_ n2_
   refine start_ (n := 12) (S := fun w' => w'.cell? ⟨gb615, 0, none⟩ = some (.int .i64 a1_0) ∧ w'.cell? ⟨gb615, 1, none⟩ = some (.int .i64 a1_1) ∧ w'.cell? ⟨gb615, 2, none⟩ = some (.int .i64 a1_2) ∧ w'.cell? ⟨gb616, 0, none⟩ = some (.int .i64 a2_0) ∧ w'.cell? ⟨gb616, 1, none⟩ = some (.int .i64 a2_1) ∧ w'.cell? ⟨gb616, 2, none⟩ = some (.int .i64 a2_2) ∧ w'.cell? ⟨gb616, 3, none⟩ = some (.int .i64 a2_3)) (ds := []) #[false, false, false, false, false, false, false, false, false, false, false, false] (by kernel_rfl) rfl rfl ⟨bcl BK615 0, bcl BK615 1, bcl BK615 2, bcl BK616 0, bcl BK616 1, bcl BK616 2, bcl BK616 3⟩ (fun hHeld => ?_); refine with_tabW laws_FnExactInvariantVec.tab1 laws_FnExactInvariantVec.bits1 (fun HT_ HW_ => ?_)
   generalize w14.drew = w15 at BK615 BK616 HB hHeld ⊢
   refine pure_ (i := 0) (N := some 12) (v := ?_) (a' := ?_) #[true, false, false, false, false, false, false, false, false, false, false, false] rfl rfl (any_of HT_.out (by kernel_rfl)) (fun _ _ _ h => h) (Or.inl ⟨by rfl, ?_⟩) ?_ ?_
   rotate_left
   ·intro w'
    go_simp
    with_reducible rfl
   rotate_left
   ·simp only [Act.put, sA, sB, sC, i64_w, i32_w]
    rfl
   refine take_ (i := 1) (N := some 13) (v := ?_) (a' := ?_) #[true, true, false, false, false, false, false, false, false, false, false, false] rfl rfl (take_ofW HT_.out HW_.out (by kernel_rfl)) (fun _ _ _ h => h) (Or.inl ⟨by rfl, ?_⟩) hHeld ?_ ?_
   rotate_left
   ·rintro w' ⟨s0, s1, s2, s3, s4, s5, s6⟩
    go_simp
    with_reducible rfl
   rotate_left
   ·simp only [Act.put, sA, sB, sC, i64_w, i32_w]
    rfl
   refine take_ (i := 3) (N := some 15) (v := ?_) (a' := ?_) #[true, true, false, true, false, false, false, false, false, false, false, false] rfl rfl (take_ofW HT_.out HW_.out (by kernel_rfl)) (fun _ _ _ h => h) (Or.inl ⟨by rfl, ?_⟩) hHeld ?_ ?_
   rotate_left
   ·rintro w' ⟨s0, s1, s2, s3, s4, s5, s6⟩
    go_simp
    with_reducible rfl
   rotate_left
   ·simp only [Act.put, sA, sB, sC, i64_w, i32_w]
    rfl
   refine join_ (σ := Nat) 2 #[true, true, true, true, true, true, true, true, true, true, false, false] (fun s_ => [(14, .agg #[.int .i64 t617, .int .i64 t618, .int .i64 t619]), (16, .agg #[.int .i64 t620, .int .i64 t621, .int .i64 t622, .int .i64 t623]), (17, .tuple #[.agg #[.int .i64 t624, .int .i64 t625], .int .i64 t626]), (7, .pointer (some ⟨s_, 0, none⟩)), (11, .tuple #[.agg #[.int .i64 t624, .int .i64 t625], .int .i64 t626]), (18, .agg #[.int .i64 t624, .int .i64 t625]), (19, .int .i64 t626)]) (fun s_ w' => (w'.cell? ⟨gb615, 0, none⟩ = some (.int .i64 a1_0) ∧ w'.cell? ⟨gb615, 1, none⟩ = some (.int .i64 a1_1) ∧ w'.cell? ⟨gb615, 2, none⟩ = some (.int .i64 a1_2) ∧ w'.cell? ⟨gb616, 0, none⟩ = some (.int .i64 a2_0) ∧ w'.cell? ⟨gb616, 1, none⟩ = some (.int .i64 a2_1) ∧ w'.cell? ⟨gb616, 2, none⟩ = some (.int .i64 a2_2) ∧ w'.cell? ⟨gb616, 3, none⟩ = some (.int .i64 a2_3)) ∧ (w'.heap[gb615]? = some (.cells #[.int .i64 a1_0, .int .i64 a1_1, .int .i64 a1_2] 23 (0, 0))) ∧ (w'.heap[gb616]? = some (.cells #[.int .i64 a2_0, .int .i64 a2_1, .int .i64 a2_2, .int .i64 a2_3] 25 (0, 0))) ∧ (w'.heap[s_]? = some (.cells #[.int .i64 0, .int .i64 0] 34 (0, 0))) ∧ (w.heap.size ≤ s_) ∧ (w.heap.size ≤ s_) ∧ (gb615 ≠ s_) ∧ (s_ ≠ gb615) ∧ (gb616 ≠ s_) ∧ (s_ ≠ gb616) ∧ (Below w.heap.size w w')) ?_ ?_
   rotate_left
   ·intro hCont
    refine two_ (i := 2) (j := 9) (Ni := some 14) (Nj := some 7) #[true, true, true, true, false, false, false, false, false, false, false, false] #[true, true, false, true, false, false, false, false, false, true, false, false] rfl rfl rfl rfl (two_of HT_.out (by kernel_rfl)) (by decide) (by decide) (fun K hK => ?_) (fun K hK => ?_)
    ·skip
     refine goes_ Try.func12 (by kernel_rfl) rfl #[.agg #[.int .i64 a1_0, .int .i64 a1_1, .int .i64 a1_2]] (by rfl) rfl rfl (by (try simp only [List.map_toArray, List.map_cons, List.map_nil]); first | done | rfl | (simp only [List.length_drop, List.length_take]; rfl)) ?_
     with_reducible refine (laws_toLattice.calls a1_0 a1_1 a1_2 t617 t618 t619 _ A4.out).mono ?_
     rintro e w16 ⟨rfl, hb⟩
     refine ⟨_, rfl, ?_⟩
     have n0_ := Aside0.mk (bbl BK615 hb)
     have n1_ := Aside0.mk (bbl BK616 hb)
     have n2_ := Aside0.mk (bst2 HB GE615 GE616 hb)
     clear BK615
     clear BK616
     clear HB
     have BK615 := n0_
     have BK616 := n1_
     have HB := n2_
     clear n0_ n1_ n2_
     (try clear hb)
     (try clear hb2)
     (try clear hk)
     (try clear hi)
     refine hK.out _ _ ⟨bcl BK615 0, bcl BK615 1, bcl BK615 2, bcl BK616 0, bcl BK616 1, bcl BK616 2, bcl BK616 3⟩ (fun hHeld => ?_)
     clear hK K
     refine norm_ (a' := ?_) ?_ ?_
     rotate_left
     ·show Act.put _ (some 14) _ = _
      simp only [Act.put, sA, sB, sC, i64_w, i32_w]
      rfl
     refine two_ (i := 4) (j := 9) (Ni := some 16) (Nj := some 7) #[true, true, true, true, true, false, false, false, false, false, false, false] #[true, true, true, true, false, false, false, false, false, true, false, false] rfl rfl rfl rfl (two_of HT_.out (by kernel_rfl)) (by decide) (by decide) (fun K hK => ?_) (fun K hK => ?_)
     ·skip
      refine goes_ Try.func24 (by kernel_rfl) rfl #[.agg #[.int .i64 a2_0, .int .i64 a2_1, .int .i64 a2_2, .int .i64 a2_3]] (by rfl) rfl rfl (by (try simp only [List.map_toArray, List.map_cons, List.map_nil]); first | done | rfl | (simp only [List.length_drop, List.length_take]; rfl)) ?_
      with_reducible refine (laws_toMat.calls a2_0 a2_1 a2_2 a2_3 t620 t621 t622 t623 _ A5.out).mono ?_
      rintro e w17 ⟨rfl, hb⟩
      refine ⟨_, rfl, ?_⟩
      have n0_ := Aside0.mk (bbl BK615 hb)
      have n1_ := Aside0.mk (bbl BK616 hb)
      have n2_ := Aside0.mk (bst2 HB GE615 GE616 hb)
      clear BK615
      clear BK616
      clear HB
      have BK615 := n0_
      have BK616 := n1_
      have HB := n2_
      clear n0_ n1_ n2_
      (try clear hb)
      (try clear hb2)
      (try clear hk)
      (try clear hi)
      refine hK.out _ _ ⟨bcl BK615 0, bcl BK615 1, bcl BK615 2, bcl BK616 0, bcl BK616 1, bcl BK616 2, bcl BK616 3⟩ (fun hHeld => ?_)
      clear hK K
      refine norm_ (a' := ?_) ?_ ?_
      rotate_left
      ·show Act.put _ (some 16) _ = _
       simp only [Act.put, sA, sB, sC, i64_w, i32_w]
       rfl
      refine two_ (i := 5) (j := 9) (Ni := some 17) (Nj := some 7) #[true, true, true, true, true, true, false, false, false, false, false, false] #[true, true, true, true, true, false, false, false, false, true, false, false] rfl rfl rfl rfl (two_of HT_.out (by kernel_rfl)) (by decide) (by decide) (fun K hK => ?_) (fun K hK => ?_)
      ·skip
       refine goes_ Try.func23 (by kernel_rfl) rfl #[.int .i64 a0, .agg #[.int .i64 t617, .int .i64 t618, .int .i64 t619], .agg #[.int .i64 t620, .int .i64 t621, .int .i64 t622, .int .i64 t623]] (by rfl) rfl rfl (by (try simp only [List.map_toArray, List.map_cons, List.map_nil]); first | done | rfl | (simp only [List.length_drop, List.length_take]; rfl)) ?_
       with_reducible refine (spec_InvariantVec.calls k a0 t617 t618 t619 t620 t621 t622 t623 t624 t625 t626 _ A6.out).mono ?_
       rintro e w18 ⟨rfl, hb⟩
       refine ⟨_, rfl, ?_⟩
       have n0_ := Aside0.mk (bbl BK615 hb)
       have n1_ := Aside0.mk (bbl BK616 hb)
       have n2_ := Aside0.mk (bst2 HB GE615 GE616 hb)
       clear BK615
       clear BK616
       clear HB
       have BK615 := n0_
       have BK616 := n1_
       have HB := n2_
       clear n0_ n1_ n2_
       (try clear hb)
       (try clear hb2)
       (try clear hk)
       (try clear hi)
       refine hK.out _ _ ⟨bcl BK615 0, bcl BK615 1, bcl BK615 2, bcl BK616 0, bcl BK616 1, bcl BK616 2, bcl BK616 3⟩ (fun hHeld => ?_)
       clear hK K
       refine norm_ (a' := ?_) ?_ ?_
       rotate_left
       ·show Act.put _ (some 17) _ = _
        simp only [Act.put, sA, sB, sC, i64_w, i32_w]
        rfl
       refine pure_ (i := 6) (N := some 11) (v := ?_) (a' := ?_) #[true, true, true, true, true, true, true, false, false, false, false, false] rfl rfl (any_of HT_.out (by kernel_rfl)) (fun _ _ _ h => h) (Or.inl ⟨by rfl, ?_⟩) ?_ ?_
       rotate_left
       ·intro w'
        go_simp
        with_reducible rfl
       rotate_left
       ·simp only [Act.put, sA, sB, sC, i64_w, i32_w]
        rfl
       refine pure_ (i := 7) (N := some 18) (v := ?_) (a' := ?_) #[true, true, true, true, true, true, true, true, false, false, false, false] rfl rfl (any_of HT_.out (by kernel_rfl)) (fun _ _ _ h => h) (Or.inl ⟨by rfl, ?_⟩) ?_ ?_
       rotate_left
       ·intro w'
        go_simp
        with_reducible rfl
       rotate_left
       ·simp only [Act.put, sA, sB, sC, i64_w, i32_w]
        rfl
       refine pure_ (i := 8) (N := some 19) (v := ?_) (a' := ?_) #[true, true, true, true, true, true, true, true, true, false, false, false] rfl rfl (any_of HT_.out (by kernel_rfl)) (fun _ _ _ h => h) (Or.inl ⟨by rfl, ?_⟩) ?_ ?_
       rotate_left
       ·intro w'
        go_simp
        with_reducible rfl
       rotate_left
       ·simp only [Act.put, sA, sB, sC, i64_w, i32_w]
        rfl
       refine one_ (i := 9) (N := some 7) #[true, true, true, true, true, true, true, true, true, true, false, false] rfl rfl (one_of HT_.out (by kernel_rfl)) (by decide) (fun K hK => ?_)
       refine box_step ?hg (N := 7) ?hd (cs := #[.int .i64 0, .int .i64 0]) (t := 34) ?hr ?_; (case hd => rfl); (case hg => rfl); (case hr => first | (go_simp; done) | (go_simp; rfl))
       intro gb627 hg w19 hbox hb
       have n0_ := Aside0.mk (bbl BK615 hb)
       have n1_ := Aside0.mk (bbl BK616 hb)
       have n2_ := Aside0.mk (bst2 HB GE615 GE616 hb)
       have n3_ := Aside0.mk (hbox)
       have n4_ := ngw2 hg HB GE615 GE616
       have n5_ := ngw2 hg HB GE615 GE616
       have n6_ := nlt hg BK615
       have n7_ := nsy (nlt hg BK615)
       have n8_ := nlt hg BK616
       have n9_ := nsy (nlt hg BK616)
       clear BK615
       clear BK616
       clear HB
       have BK615 := n0_
       have BK616 := n1_
       have HB := n2_
       have BK627 := n3_
       have GW627 := n4_
       have GE627 := n5_
       have NB615_627 := n6_
       have NB627_615 := n7_
       have NB616_627 := n8_
       have NB627_616 := n9_
       clear n0_ n1_ n2_ n3_ n4_ n5_ n6_ n7_ n8_ n9_
       clear hb hbox hg
       refine hK.out _ _ ⟨bcl BK615 0, bcl BK615 1, bcl BK615 2, bcl BK616 0, bcl BK616 1, bcl BK616 2, bcl BK616 3⟩ (fun hHeld => ?_)
       clear hK K
       refine norm_ (a' := ?_) ?_ ?_
       rotate_left
       ·show Act.put _ (some 7) _ = _
        simp only [Act.put, sA, sB, sC, i64_w, i32_w]
        rfl
       exact norm_ (by simp only [putAll, Act.put, sA, sB, sC]) (hCont (gb627) _ ⟨hHeld, (bkp BK615), (bkp BK616), (bkp BK627), GW627.out, GE627.out, NB615_627.out, NB627_615.out, NB616_627.out, NB627_616.out, (bbw3 HB GE615 GE616 GE627)⟩)
      ·skip
       refine box_step ?hg (N := 7) ?hd (cs := #[.int .i64 0, .int .i64 0]) (t := 34) ?hr ?_; (case hd => rfl); (case hg => rfl); (case hr => first | (go_simp; done) | (go_simp; rfl))
       intro gb627 hg w18 hbox hb
       have n0_ := Aside0.mk (bbl BK615 hb)
       have n1_ := Aside0.mk (bbl BK616 hb)
       have n2_ := Aside0.mk (bst2 HB GE615 GE616 hb)
       have n3_ := Aside0.mk (hbox)
       have n4_ := ngw2 hg HB GE615 GE616
       have n5_ := ngw2 hg HB GE615 GE616
       have n6_ := nlt hg BK615
       have n7_ := nsy (nlt hg BK615)
       have n8_ := nlt hg BK616
       have n9_ := nsy (nlt hg BK616)
       clear BK615
       clear BK616
       clear HB
       have BK615 := n0_
       have BK616 := n1_
       have HB := n2_
       have BK627 := n3_
       have GW627 := n4_
       have GE627 := n5_
       have NB615_627 := n6_
       have NB627_615 := n7_
       have NB616_627 := n8_
       have NB627_616 := n9_
       clear n0_ n1_ n2_ n3_ n4_ n5_ n6_ n7_ n8_ n9_
       clear hb hbox hg
       refine hK.out _ _ ⟨bcl BK615 0, bcl BK615 1, bcl BK615 2, bcl BK616 0, bcl BK616 1, bcl BK616 2, bcl BK616 3⟩ (fun hHeld => ?_)
       clear hK K
       refine norm_ (a' := ?_) ?_ ?_
       rotate_left
       ·show Act.put _ (some 7) _ = _
        simp only [Act.put, sA, sB, sC, i64_w, i32_w]
        rfl
       refine one_ (i := 5) (N := some 17) #[true, true, true, true, true, true, false, false, false, true, false, false] rfl rfl (one_of HT_.out (by kernel_rfl)) (by decide) (fun K hK => ?_)
       refine goes_ Try.func23 (by kernel_rfl) rfl #[.int .i64 a0, .agg #[.int .i64 t617, .int .i64 t618, .int .i64 t619], .agg #[.int .i64 t620, .int .i64 t621, .int .i64 t622, .int .i64 t623]] (by rfl) rfl rfl (by (try simp only [List.map_toArray, List.map_cons, List.map_nil]); first | done | rfl | (simp only [List.length_drop, List.length_take]; rfl)) ?_
       with_reducible refine (spec_InvariantVec.calls k a0 t617 t618 t619 t620 t621 t622 t623 t624 t625 t626 _ A6.out).mono ?_
       rintro e w19 ⟨rfl, hb⟩
       refine ⟨_, rfl, ?_⟩
       have n0_ := Aside0.mk (bbl BK615 hb)
       have n1_ := Aside0.mk (bbl BK616 hb)
       have n2_ := Aside0.mk (bbl BK627 hb)
       have n3_ := Aside0.mk (bst3 HB GE615 GE616 GE627 hb)
       clear BK615
       clear BK616
       clear BK627
       clear HB
       have BK615 := n0_
       have BK616 := n1_
       have BK627 := n2_
       have HB := n3_
       clear n0_ n1_ n2_ n3_
       (try clear hb)
       (try clear hb2)
       (try clear hk)
       (try clear hi)
       refine hK.out _ _ ⟨bcl BK615 0, bcl BK615 1, bcl BK615 2, bcl BK616 0, bcl BK616 1, bcl BK616 2, bcl BK616 3⟩ (fun hHeld => ?_)
       clear hK K
       refine norm_ (a' := ?_) ?_ ?_
       rotate_left
       ·show Act.put _ (some 17) _ = _
        simp only [Act.put, sA, sB, sC, i64_w, i32_w]
        rfl
       refine pure_ (i := 6) (N := some 11) (v := ?_) (a' := ?_) #[true, true, true, true, true, true, true, false, false, true, false, false] rfl rfl (any_of HT_.out (by kernel_rfl)) (fun _ _ _ h => h) (Or.inl ⟨by rfl, ?_⟩) ?_ ?_
       rotate_left
       ·intro w'
        go_simp
        with_reducible rfl
       rotate_left
       ·simp only [Act.put, sA, sB, sC, i64_w, i32_w]
        rfl
       refine pure_ (i := 7) (N := some 18) (v := ?_) (a' := ?_) #[true, true, true, true, true, true, true, true, false, true, false, false] rfl rfl (any_of HT_.out (by kernel_rfl)) (fun _ _ _ h => h) (Or.inl ⟨by rfl, ?_⟩) ?_ ?_
       rotate_left
       ·intro w'
        go_simp
        with_reducible rfl
       rotate_left
       ·simp only [Act.put, sA, sB, sC, i64_w, i32_w]
        rfl
       refine pure_ (i := 8) (N := some 19) (v := ?_) (a' := ?_) #[true, true, true, true, true, true, true, true, true, true, false, false] rfl rfl (any_of HT_.out (by kernel_rfl)) (fun _ _ _ h => h) (Or.inl ⟨by rfl, ?_⟩) ?_ ?_
       rotate_left
       ·intro w'
        go_simp
        with_reducible rfl
       rotate_left
       ·simp only [Act.put, sA, sB, sC, i64_w, i32_w]
        rfl
       exact norm_ (by simp only [putAll, Act.put, sA, sB, sC]) (hCont (gb627) _ ⟨hHeld, (bkp BK615), (bkp BK616), (bkp BK627), GW627.out, GE627.out, NB615_627.out, NB627_615.out, NB616_627.out, NB627_616.out, (bbw3 HB GE615 GE616 GE627)⟩)
     ·skip
      refine box_step ?hg (N := 7) ?hd (cs := #[.int .i64 0, .int .i64 0]) (t := 34) ?hr ?_; (case hd => rfl); (case hg => rfl); (case hr => first | (go_simp; done) | (go_simp; rfl))
      intro gb627 hg w17 hbox hb
      have n0_ := Aside0.mk (bbl BK615 hb)
      have n1_ := Aside0.mk (bbl BK616 hb)
      have n2_ := Aside0.mk (bst2 HB GE615 GE616 hb)
      have n3_ := Aside0.mk (hbox)
      have n4_ := ngw2 hg HB GE615 GE616
      have n5_ := ngw2 hg HB GE615 GE616
      have n6_ := nlt hg BK615
      have n7_ := nsy (nlt hg BK615)
      have n8_ := nlt hg BK616
      have n9_ := nsy (nlt hg BK616)
      clear BK615
      clear BK616
      clear HB
      have BK615 := n0_
      have BK616 := n1_
      have HB := n2_
      have BK627 := n3_
      have GW627 := n4_
      have GE627 := n5_
      have NB615_627 := n6_
      have NB627_615 := n7_
      have NB616_627 := n8_
      have NB627_616 := n9_
      clear n0_ n1_ n2_ n3_ n4_ n5_ n6_ n7_ n8_ n9_
      clear hb hbox hg
      refine hK.out _ _ ⟨bcl BK615 0, bcl BK615 1, bcl BK615 2, bcl BK616 0, bcl BK616 1, bcl BK616 2, bcl BK616 3⟩ (fun hHeld => ?_)
      clear hK K
      refine norm_ (a' := ?_) ?_ ?_
      rotate_left
      ·show Act.put _ (some 7) _ = _
       simp only [Act.put, sA, sB, sC, i64_w, i32_w]
       rfl
      refine one_ (i := 4) (N := some 16) #[true, true, true, true, true, false, false, false, false, true, false, false] rfl rfl (one_of HT_.out (by kernel_rfl)) (by decide) (fun K hK => ?_)
      refine goes_ Try.func24 (by kernel_rfl) rfl #[.agg #[.int .i64 a2_0, .int .i64 a2_1, .int .i64 a2_2, .int .i64 a2_3]] (by rfl) rfl rfl (by (try simp only [List.map_toArray, List.map_cons, List.map_nil]); first | done | rfl | (simp only [List.length_drop, List.length_take]; rfl)) ?_
      with_reducible refine (laws_toMat.calls a2_0 a2_1 a2_2 a2_3 t620 t621 t622 t623 _ A5.out).mono ?_
      rintro e w18 ⟨rfl, hb⟩
      refine ⟨_, rfl, ?_⟩
      have n0_ := Aside0.mk (bbl BK615 hb)
      have n1_ := Aside0.mk (bbl BK616 hb)
      have n2_ := Aside0.mk (bbl BK627 hb)
      have n3_ := Aside0.mk (bst3 HB GE615 GE616 GE627 hb)
      clear BK615
      clear BK616
      clear BK627
      clear HB
      have BK615 := n0_
      have BK616 := n1_
      have BK627 := n2_
      have HB := n3_
      clear n0_ n1_ n2_ n3_
      (try clear hb)
      (try clear hb2)
      (try clear hk)
      (try clear hi)
      refine hK.out _ _ ⟨bcl BK615 0, bcl BK615 1, bcl BK615 2, bcl BK616 0, bcl BK616 1, bcl BK616 2, bcl BK616 3⟩ (fun hHeld => ?_)
      clear hK K
      refine norm_ (a' := ?_) ?_ ?_
      rotate_left
      ·show Act.put _ (some 16) _ = _
       simp only [Act.put, sA, sB, sC, i64_w, i32_w]
       rfl
      refine one_ (i := 5) (N := some 17) #[true, true, true, true, true, true, false, false, false, true, false, false] rfl rfl (one_of HT_.out (by kernel_rfl)) (by decide) (fun K hK => ?_)
      refine goes_ Try.func23 (by kernel_rfl) rfl #[.int .i64 a0, .agg #[.int .i64 t617, .int .i64 t618, .int .i64 t619], .agg #[.int .i64 t620, .int .i64 t621, .int .i64 t622, .int .i64 t623]] (by rfl) rfl rfl (by (try simp only [List.map_toArray, List.map_cons, List.map_nil]); first | done | rfl | (simp only [List.length_drop, List.length_take]; rfl)) ?_
      with_reducible refine (spec_InvariantVec.calls k a0 t617 t618 t619 t620 t621 t622 t623 t624 t625 t626 _ A6.out).mono ?_
      rintro e w19 ⟨rfl, hb⟩
      refine ⟨_, rfl, ?_⟩
      have n0_ := Aside0.mk (bbl BK615 hb)
      have n1_ := Aside0.mk (bbl BK616 hb)
      have n2_ := Aside0.mk (bbl BK627 hb)
      have n3_ := Aside0.mk (bst3 HB GE615 GE616 GE627 hb)
      clear BK615
      clear BK616
      clear BK627
      clear HB
      have BK615 := n0_
      have BK616 := n1_
      have BK627 := n2_
      have HB := n3_
      clear n0_ n1_ n2_ n3_
      (try clear hb)
      (try clear hb2)
      (try clear hk)
      (try clear hi)
      refine hK.out _ _ ⟨bcl BK615 0, bcl BK615 1, bcl BK615 2, bcl BK616 0, bcl BK616 1, bcl BK616 2, bcl BK616 3⟩ (fun hHeld => ?_)
      clear hK K
      refine norm_ (a' := ?_) ?_ ?_
      rotate_left
      ·show Act.put _ (some 17) _ = _
       simp only [Act.put, sA, sB, sC, i64_w, i32_w]
       rfl
      refine pure_ (i := 6) (N := some 11) (v := ?_) (a' := ?_) #[true, true, true, true, true, true, true, false, false, true, false, false] rfl rfl (any_of HT_.out (by kernel_rfl)) (fun _ _ _ h => h) (Or.inl ⟨by rfl, ?_⟩) ?_ ?_
      rotate_left
      ·intro w'
       go_simp
       with_reducible rfl
      rotate_left
      ·simp only [Act.put, sA, sB, sC, i64_w, i32_w]
       rfl
      refine pure_ (i := 7) (N := some 18) (v := ?_) (a' := ?_) #[true, true, true, true, true, true, true, true, false, true, false, false] rfl rfl (any_of HT_.out (by kernel_rfl)) (fun _ _ _ h => h) (Or.inl ⟨by rfl, ?_⟩) ?_ ?_
      rotate_left
      ·intro w'
       go_simp
       with_reducible rfl
      rotate_left
      ·simp only [Act.put, sA, sB, sC, i64_w, i32_w]
       rfl
      refine pure_ (i := 8) (N := some 19) (v := ?_) (a' := ?_) #[true, true, true, true, true, true, true, true, true, true, false, false] rfl rfl (any_of HT_.out (by kernel_rfl)) (fun _ _ _ h => h) (Or.inl ⟨by rfl, ?_⟩) ?_ ?_
      rotate_left
      ·intro w'
       go_simp
       with_reducible rfl
      rotate_left
      ·simp only [Act.put, sA, sB, sC, i64_w, i32_w]
       rfl
      exact norm_ (by simp only [putAll, Act.put, sA, sB, sC]) (hCont (gb627) _ ⟨hHeld, (bkp BK615), (bkp BK616), (bkp BK627), GW627.out, GE627.out, NB615_627.out, NB627_615.out, NB616_627.out, NB627_616.out, (bbw3 HB GE615 GE616 GE627)⟩)
    ·skip
     refine box_step ?hg (N := 7) ?hd (cs := #[.int .i64 0, .int .i64 0]) (t := 34) ?hr ?_; (case hd => rfl); (case hg => rfl); (case hr => first | (go_simp; done) | (go_simp; rfl))
     intro gb627 hg w16 hbox hb
     have n0_ := Aside0.mk (bbl BK615 hb)
     have n1_ := Aside0.mk (bbl BK616 hb)
     have n2_ := Aside0.mk (bst2 HB GE615 GE616 hb)
     have n3_ := Aside0.mk (hbox)
     have n4_ := ngw2 hg HB GE615 GE616
     have n5_ := ngw2 hg HB GE615 GE616
     have n6_ := nlt hg BK615
     have n7_ := nsy (nlt hg BK615)
     have n8_ := nlt hg BK616
     have n9_ := nsy (nlt hg BK616)
     clear BK615
     clear BK616
     clear HB
     have BK615 := n0_
     have BK616 := n1_
     have HB := n2_
     have BK627 := n3_
     have GW627 := n4_
     have GE627 := n5_
     have NB615_627 := n6_
     have NB627_615 := n7_
     have NB616_627 := n8_
     have NB627_616 := n9_
     clear n0_ n1_ n2_ n3_ n4_ n5_ n6_ n7_ n8_ n9_
     clear hb hbox hg
     refine hK.out _ _ ⟨bcl BK615 0, bcl BK615 1, bcl BK615 2, bcl BK616 0, bcl BK616 1, bcl BK616 2, bcl BK616 3⟩ (fun hHeld => ?_)
     clear hK K
     refine norm_ (a' := ?_) ?_ ?_
     rotate_left
     ·show Act.put _ (some 7) _ = _
      simp only [Act.put, sA, sB, sC, i64_w, i32_w]
      rfl
     refine one_ (i := 2) (N := some 14) #[true, true, true, true, false, false, false, false, false, true, false, false] rfl rfl (one_of HT_.out (by kernel_rfl)) (by decide) (fun K hK => ?_)
     refine goes_ Try.func12 (by kernel_rfl) rfl #[.agg #[.int .i64 a1_0, .int .i64 a1_1, .int .i64 a1_2]] (by rfl) rfl rfl (by (try simp only [List.map_toArray, List.map_cons, List.map_nil]); first | done | rfl | (simp only [List.length_drop, List.length_take]; rfl)) ?_
     with_reducible refine (laws_toLattice.calls a1_0 a1_1 a1_2 t617 t618 t619 _ A4.out).mono ?_
     rintro e w17 ⟨rfl, hb⟩
     refine ⟨_, rfl, ?_⟩
     have n0_ := Aside0.mk (bbl BK615 hb)
     have n1_ := Aside0.mk (bbl BK616 hb)
     have n2_ := Aside0.mk (bbl BK627 hb)
     have n3_ := Aside0.mk (bst3 HB GE615 GE616 GE627 hb)
     clear BK615
     clear BK616
     clear BK627
     clear HB
     have BK615 := n0_
     have BK616 := n1_
     have BK627 := n2_
     have HB := n3_
     clear n0_ n1_ n2_ n3_
     (try clear hb)
     (try clear hb2)
     (try clear hk)
     (try clear hi)
     refine hK.out _ _ ⟨bcl BK615 0, bcl BK615 1, bcl BK615 2, bcl BK616 0, bcl BK616 1, bcl BK616 2, bcl BK616 3⟩ (fun hHeld => ?_)
     clear hK K
     refine norm_ (a' := ?_) ?_ ?_
     rotate_left
     ·show Act.put _ (some 14) _ = _
      simp only [Act.put, sA, sB, sC, i64_w, i32_w]
      rfl
     refine one_ (i := 4) (N := some 16) #[true, true, true, true, true, false, false, false, false, true, false, false] rfl rfl (one_of HT_.out (by kernel_rfl)) (by decide) (fun K hK => ?_)
     refine goes_ Try.func24 (by kernel_rfl) rfl #[.agg #[.int .i64 a2_0, .int .i64 a2_1, .int .i64 a2_2, .int .i64 a2_3]] (by rfl) rfl rfl (by (try simp only [List.map_toArray, List.map_cons, List.map_nil]); first | done | rfl | (simp only [List.length_drop, List.length_take]; rfl)) ?_
     with_reducible refine (laws_toMat.calls a2_0 a2_1 a2_2 a2_3 t620 t621 t622 t623 _ A5.out).mono ?_
     rintro e w18 ⟨rfl, hb⟩
     refine ⟨_, rfl, ?_⟩
     have n0_ := Aside0.mk (bbl BK615 hb)
     have n1_ := Aside0.mk (bbl BK616 hb)
     have n2_ := Aside0.mk (bbl BK627 hb)
     have n3_ := Aside0.mk (bst3 HB GE615 GE616 GE627 hb)
     clear BK615
     clear BK616
     clear BK627
     clear HB
     have BK615 := n0_
     have BK616 := n1_
     have BK627 := n2_
     have HB := n3_
     clear n0_ n1_ n2_ n3_
     (try clear hb)
     (try clear hb2)
     (try clear hk)
     (try clear hi)
     refine hK.out _ _ ⟨bcl BK615 0, bcl BK615 1, bcl BK615 2, bcl BK616 0, bcl BK616 1, bcl BK616 2, bcl BK616 3⟩ (fun hHeld => ?_)
     clear hK K
     refine norm_ (a' := ?_) ?_ ?_
     rotate_left
     ·show Act.put _ (some 16) _ = _
      simp only [Act.put, sA, sB, sC, i64_w, i32_w]
      rfl
     refine one_ (i := 5) (N := some 17) #[true, true, true, true, true, true, false, false, false, true, false, false] rfl rfl (one_of HT_.out (by kernel_rfl)) (by decide) (fun K hK => ?_)
     refine goes_ Try.func23 (by kernel_rfl) rfl #[.int .i64 a0, .agg #[.int .i64 t617, .int .i64 t618, .int .i64 t619], .agg #[.int .i64 t620, .int .i64 t621, .int .i64 t622, .int .i64 t623]] (by rfl) rfl rfl (by (try simp only [List.map_toArray, List.map_cons, List.map_nil]); first | done | rfl | (simp only [List.length_drop, List.length_take]; rfl)) ?_
     with_reducible refine (spec_InvariantVec.calls k a0 t617 t618 t619 t620 t621 t622 t623 t624 t625 t626 _ A6.out).mono ?_
     rintro e w19 ⟨rfl, hb⟩
     refine ⟨_, rfl, ?_⟩
     have n0_ := Aside0.mk (bbl BK615 hb)
     have n1_ := Aside0.mk (bbl BK616 hb)
     have n2_ := Aside0.mk (bbl BK627 hb)
     have n3_ := Aside0.mk (bst3 HB GE615 GE616 GE627 hb)
     clear BK615
     clear BK616
     clear BK627
     clear HB
     have BK615 := n0_
     have BK616 := n1_
     have BK627 := n2_
     have HB := n3_
     clear n0_ n1_ n2_ n3_
     (try clear hb)
     (try clear hb2)
     (try clear hk)
     (try clear hi)
     refine hK.out _ _ ⟨bcl BK615 0, bcl BK615 1, bcl BK615 2, bcl BK616 0, bcl BK616 1, bcl BK616 2, bcl BK616 3⟩ (fun hHeld => ?_)
     clear hK K
     refine norm_ (a' := ?_) ?_ ?_
     rotate_left
     ·show Act.put _ (some 17) _ = _
      simp only [Act.put, sA, sB, sC, i64_w, i32_w]
      rfl
     refine pure_ (i := 6) (N := some 11) (v := ?_) (a' := ?_) #[true, true, true, true, true, true, true, false, false, true, false, false] rfl rfl (any_of HT_.out (by kernel_rfl)) (fun _ _ _ h => h) (Or.inl ⟨by rfl, ?_⟩) ?_ ?_
     rotate_left
     ·intro w'
      go_simp
      with_reducible rfl
     rotate_left
     ·simp only [Act.put, sA, sB, sC, i64_w, i32_w]
      rfl
     refine pure_ (i := 7) (N := some 18) (v := ?_) (a' := ?_) #[true, true, true, true, true, true, true, true, false, true, false, false] rfl rfl (any_of HT_.out (by kernel_rfl)) (fun _ _ _ h => h) (Or.inl ⟨by rfl, ?_⟩) ?_ ?_
     rotate_left
     ·intro w'
      go_simp
      with_reducible rfl
     rotate_left
     ·simp only [Act.put, sA, sB, sC, i64_w, i32_w]
      rfl
     refine pure_ (i := 8) (N := some 19) (v := ?_) (a' := ?_) #[true, true, true, true, true, true, true, true, true, true, false, false] rfl rfl (any_of HT_.out (by kernel_rfl)) (fun _ _ _ h => h) (Or.inl ⟨by rfl, ?_⟩) ?_ ?_
     rotate_left
     ·intro w'
      go_simp
      with_reducible rfl
     rotate_left
     ·simp only [Act.put, sA, sB, sC, i64_w, i32_w]
      rfl
     exact norm_ (by simp only [putAll, Act.put, sA, sB, sC]) (hCont (gb627) _ ⟨hHeld, (bkp BK615), (bkp BK616), (bkp BK627), GW627.out, GE627.out, NB615_627.out, NB627_615.out, NB616_627.out, NB627_616.out, (bbw3 HB GE615 GE616 GE627)⟩)
   rintro gb627 w20 ⟨hS_, h0_, h1_, h2_, h3_, h4_, h5_, h6_, h7_, h8_, h9_⟩
   have n0_ : Aside0 (w20.heap[gb615]? = some (.cells #[.int .i64 a1_0, .int .i64 a1_1, .int .i64 a1_2] 23 (0, 0))) := ⟨h0_⟩
   have n1_ : Aside0 (w20.heap[gb616]? = some (.cells #[.int .i64 a2_0, .int .i64 a2_1, .int .i64 a2_2, .int .i64 a2_3] 25 (0, 0))) := ⟨h1_⟩
   have n2_ : Aside0 (w20.heap[gb627]? = some (.cells #[.int .i64 0, .int .i64 0] 34 (0, 0))) := ⟨h2_⟩
   have n3_ : Aside0 (w.heap.size ≤ gb627) := ⟨h3_⟩
   have n4_ : Aside0 (w.heap.size ≤ gb627) := ⟨h4_⟩
   have n5_ : Aside0 (gb615 ≠ gb627) := ⟨h5_⟩
   have n6_ : Aside0 (gb627 ≠ gb615) := ⟨h6_⟩
   have n7_ : Aside0 (gb616 ≠ gb627) := ⟨h7_⟩
   have n8_ : Aside0 (gb627 ≠ gb616) := ⟨h8_⟩
   have n9_ : Aside0 (Below w.heap.size w w20) := ⟨h9_⟩
   clear BK615
   clear BK616
   clear HB
   clear h0_ h1_ h2_ h3_ h4_ h5_ h6_ h7_ h8_ h9_
   have BK615 := n0_
   have BK616 := n1_
   have BK627 := n2_
   have GW627 := n3_
   have GE627 := n4_
   have NB615_627 := n5_
   have NB627_615 := n6_
   have NB616_627 := n7_
   have NB627_616 := n8_
   have HB := n9_
   clear n0_ n1_ n2_ n3_ n4_ n5_ n6_ n7_ n8_ n9_
   have hHeld : w20.cell? ⟨gb615, 0, none⟩ = some (.int .i64 a1_0) ∧ w20.cell? ⟨gb615, 1, none⟩ = some (.int .i64 a1_1) ∧ w20.cell? ⟨gb615, 2, none⟩ = some (.int .i64 a1_2) ∧ w20.cell? ⟨gb616, 0, none⟩ = some (.int .i64 a2_0) ∧ w20.cell? ⟨gb616, 1, none⟩ = some (.int .i64 a2_1) ∧ w20.cell? ⟨gb616, 2, none⟩ = some (.int .i64 a2_2) ∧ w20.cell? ⟨gb616, 3, none⟩ = some (.int .i64 a2_3) := hS_
   refine norm_ (a' := ?_) ?_ ?_
   rotate_left
   ·simp only [putAll, Act.put, sA, sB, sC]
    rfl
   refine one_ (i := 10) (N := none) #[true, true, true, true, true, true, true, true, true, true, true, false] rfl rfl (one_of HT_.out (by kernel_rfl)) (by decide) (fun K hK => ?_)
   have hs21 : w20.cell? ⟨gb627, 0, none⟩ = some (.int .i64 0) := bcl BK627 0
   have hfs21 := blk_frozen BK627.out 0
   have hns21_0 := NB615_627.out
   have hns21_1 := NB616_627.out
   have hms21_0 := NB627_615.out
   have hms21_1 := NB627_616.out
   have hs22 : w20.cell? ⟨gb627, 1, none⟩ = some (.int .i64 0) := bcl BK627 1
   have hfs22 := blk_frozen BK627.out 1
   have hns22_0 := NB615_627.out
   have hns22_1 := NB616_627.out
   have hms22_0 := NB627_615.out
   have hms22_1 := NB627_616.out
   refine skip_ (w1 := ?_) (by rfl) rfl ?_ ?_
   rotate_left
   ·go_simp
    rfl
   refine hK.out _ _ ⟨((cell_far (p := ⟨gb627, _, none⟩) NB615_627.out _).trans (((cell_far (p := ⟨gb627, _, none⟩) NB615_627.out _).trans (hHeld.1)))), ((cell_far (p := ⟨gb627, _, none⟩) NB615_627.out _).trans (((cell_far (p := ⟨gb627, _, none⟩) NB615_627.out _).trans (hHeld.2.1)))), ((cell_far (p := ⟨gb627, _, none⟩) NB615_627.out _).trans (((cell_far (p := ⟨gb627, _, none⟩) NB615_627.out _).trans (hHeld.2.2.1)))), ((cell_far (p := ⟨gb627, _, none⟩) NB616_627.out _).trans (((cell_far (p := ⟨gb627, _, none⟩) NB616_627.out _).trans (hHeld.2.2.2.1)))), ((cell_far (p := ⟨gb627, _, none⟩) NB616_627.out _).trans (((cell_far (p := ⟨gb627, _, none⟩) NB616_627.out _).trans (hHeld.2.2.2.2.1)))), ((cell_far (p := ⟨gb627, _, none⟩) NB616_627.out _).trans (((cell_far (p := ⟨gb627, _, none⟩) NB616_627.out _).trans (hHeld.2.2.2.2.2.1)))), ((cell_far (p := ⟨gb627, _, none⟩) NB616_627.out _).trans (((cell_far (p := ⟨gb627, _, none⟩) NB616_627.out _).trans (hHeld.2.2.2.2.2.2))))⟩ (fun hHeld => ?_)
   clear hK K
   refine pure_ (i := 11) (N := some 8) (v := ?_) (a' := ?_) #[true, true, true, true, true, true, true, true, true, true, true, true] rfl rfl (any_of HT_.out (by kernel_rfl)) (fun _ _ _ h => h) (Or.inl ⟨by rfl, ?_⟩) ?_ ?_
   rotate_left
   ·intro w'
    go_simp
    with_reducible rfl
   rotate_left
   ·simp only [Act.put, sA, sB, sC, i64_w, i32_w]
    rfl
   refine done_ (done_of HT_.out (by kernel_rfl)) ?_
   try go_wp2
   have n0_ : Aside0 (((w20.setCell ⟨gb627, 0, none⟩ (.int .i64 t624)).setCell ⟨gb627, 1, none⟩ (.int .i64 t625)).heap[gb615]? = some (.cells #[.int .i64 a1_0, .int .i64 a1_1, .int .i64 a1_2] 23 (0, 0))) := ⟨by (with_reducible repeat (first | refine blk_drewN ?_ _ | refine blk_drew ?_ | refine blk_alloc ?_ _)); refine blk_far ?_ NB615_627.out _; (with_reducible repeat (first | refine blk_drewN ?_ _ | refine blk_drew ?_ | refine blk_alloc ?_ _)); refine blk_far ?_ NB615_627.out _; (with_reducible repeat (first | refine blk_drewN ?_ _ | refine blk_drew ?_ | refine blk_alloc ?_ _)); exact BK615.out⟩
   have n1_ : Aside0 (((w20.setCell ⟨gb627, 0, none⟩ (.int .i64 t624)).setCell ⟨gb627, 1, none⟩ (.int .i64 t625)).heap[gb616]? = some (.cells #[.int .i64 a2_0, .int .i64 a2_1, .int .i64 a2_2, .int .i64 a2_3] 25 (0, 0))) := ⟨by (with_reducible repeat (first | refine blk_drewN ?_ _ | refine blk_drew ?_ | refine blk_alloc ?_ _)); refine blk_far ?_ NB616_627.out _; (with_reducible repeat (first | refine blk_drewN ?_ _ | refine blk_drew ?_ | refine blk_alloc ?_ _)); refine blk_far ?_ NB616_627.out _; (with_reducible repeat (first | refine blk_drewN ?_ _ | refine blk_drew ?_ | refine blk_alloc ?_ _)); exact BK616.out⟩
   have n2_ : Aside0 (((w20.setCell ⟨gb627, 0, none⟩ (.int .i64 t624)).setCell ⟨gb627, 1, none⟩ (.int .i64 t625)).heap[gb627]? = some (.cells #[.int .i64 t624, .int .i64 t625] 34 (0, 0))) := ⟨by (with_reducible repeat (first | refine blk_drewN ?_ _ | refine blk_drew ?_ | refine blk_alloc ?_ _)); refine blk_put (cs := #[.int .i64 t624, .int .i64 0]) ?_ 1 _ rfl; (with_reducible repeat (first | refine blk_drewN ?_ _ | refine blk_drew ?_ | refine blk_alloc ?_ _)); refine blk_put (cs := #[.int .i64 0, .int .i64 0]) ?_ 0 _ rfl; (with_reducible repeat (first | refine blk_drewN ?_ _ | refine blk_drew ?_ | refine blk_alloc ?_ _)); exact BK627.out⟩
   have n3_ : Aside0 (Below w.heap.size w ((w20.setCell ⟨gb627, 0, none⟩ (.int .i64 t624)).setCell ⟨gb627, 1, none⟩ (.int .i64 t625))) := ⟨bbw3 HB GE615 GE616 GE627⟩
   (try clear BK615)
   (try clear BK616)
   (try clear BK627)
   (try clear HB)
   generalize ((w20.setCell ⟨gb627, 0, none⟩ (.int .i64 t624)).setCell ⟨gb627, 1, none⟩ (.int .i64 t625)) = w23 at n0_ n1_ n2_ n3_ ⊢
   have BK615 := n0_
   have BK616 := n1_
   have BK627 := n2_
   have HB := n3_
   clear n0_ n1_ n2_ n3_
   have n0_ := Aside0.mk (blk_drew BK615.out)
   have n1_ := Aside0.mk (blk_drew BK616.out)
   have n2_ := Aside0.mk (blk_drew BK627.out)
   have n3_ := Aside0.mk (below_drew1 HB.out)
   clear BK615
   clear BK616
   clear BK627
   clear HB
   have BK615 := n0_
   have BK616 := n1_
   have BK627 := n2_
   have HB := n3_
   clear n0_ n1_ n2_ n3_
   refine start_ (n := 12) (S := fun w' => w'.cell? ⟨gb615, 0, none⟩ = some (.int .i64 a1_0) ∧ w'.cell? ⟨gb615, 1, none⟩ = some (.int .i64 a1_1) ∧ w'.cell? ⟨gb615, 2, none⟩ = some (.int .i64 a1_2) ∧ w'.cell? ⟨gb616, 0, none⟩ = some (.int .i64 a2_0) ∧ w'.cell? ⟨gb616, 1, none⟩ = some (.int .i64 a2_1) ∧ w'.cell? ⟨gb616, 2, none⟩ = some (.int .i64 a2_2) ∧ w'.cell? ⟨gb616, 3, none⟩ = some (.int .i64 a2_3)) (ds := []) #[false, false, false, false, false, false, false, false, false, false, false, false] (by kernel_rfl) rfl rfl ⟨bcl BK615 0, bcl BK615 1, bcl BK615 2, bcl BK616 0, bcl BK616 1, bcl BK616 2, bcl BK616 3⟩ (fun hHeld => ?_); refine with_tabW laws_FnExactInvariantVec.tab2 laws_FnExactInvariantVec.bits2 (fun HT_ HW_ => ?_)
   generalize w23.drew = w24 at BK615 BK616 BK627 HB hHeld ⊢
   refine pure_ (i := 0) (N := some 21) (v := ?_) (a' := ?_) #[true, false, false, false, false, false, false, false, false, false, false, false] rfl rfl (any_of HT_.out (by kernel_rfl)) (fun _ _ _ h => h) (Or.inl ⟨by rfl, ?_⟩) ?_ ?_
   rotate_left
   ·intro w'
    go_simp
    with_reducible rfl
   rotate_left
   ·simp only [Act.put, sA, sB, sC, i64_w, i32_w]
    rfl
   refine take_ (i := 1) (N := some 22) (v := ?_) (a' := ?_) #[true, true, false, false, false, false, false, false, false, false, false, false] rfl rfl (take_ofW HT_.out HW_.out (by kernel_rfl)) (fun _ _ _ h => h) (Or.inl ⟨by rfl, ?_⟩) hHeld ?_ ?_
   rotate_left
   ·rintro w' ⟨s0, s1, s2, s3, s4, s5, s6⟩
    go_simp
    with_reducible rfl
   rotate_left
   ·simp only [Act.put, sA, sB, sC, i64_w, i32_w]
    rfl
   refine take_ (i := 3) (N := some 24) (v := ?_) (a' := ?_) #[true, true, false, true, false, false, false, false, false, false, false, false] rfl rfl (take_ofW HT_.out HW_.out (by kernel_rfl)) (fun _ _ _ h => h) (Or.inl ⟨by rfl, ?_⟩) hHeld ?_ ?_
   rotate_left
   ·rintro w' ⟨s0, s1, s2, s3, s4, s5, s6⟩
    go_simp
    with_reducible rfl
   rotate_left
   ·simp only [Act.put, sA, sB, sC, i64_w, i32_w]
    rfl
   refine join_ (σ := Nat) 2 #[true, true, true, true, true, true, true, true, true, true, false, false] (fun s_ => [(23, .agg #[.int .i64 t628, .int .i64 t629, .int .i64 t630]), (25, .agg #[.int .i64 t631, .int .i64 t632, .int .i64 t633, .int .i64 t634]), (26, .tuple #[.agg #[.int .i64 t635, .int .i64 t636], .int .i64 t637]), (9, .pointer (some ⟨s_, 0, none⟩)), (20, .tuple #[.agg #[.int .i64 t635, .int .i64 t636], .int .i64 t637]), (27, .agg #[.int .i64 t635, .int .i64 t636]), (28, .int .i64 t637)]) (fun s_ w' => (w'.cell? ⟨gb615, 0, none⟩ = some (.int .i64 a1_0) ∧ w'.cell? ⟨gb615, 1, none⟩ = some (.int .i64 a1_1) ∧ w'.cell? ⟨gb615, 2, none⟩ = some (.int .i64 a1_2) ∧ w'.cell? ⟨gb616, 0, none⟩ = some (.int .i64 a2_0) ∧ w'.cell? ⟨gb616, 1, none⟩ = some (.int .i64 a2_1) ∧ w'.cell? ⟨gb616, 2, none⟩ = some (.int .i64 a2_2) ∧ w'.cell? ⟨gb616, 3, none⟩ = some (.int .i64 a2_3)) ∧ (w'.heap[gb615]? = some (.cells #[.int .i64 a1_0, .int .i64 a1_1, .int .i64 a1_2] 23 (0, 0))) ∧ (w'.heap[gb616]? = some (.cells #[.int .i64 a2_0, .int .i64 a2_1, .int .i64 a2_2, .int .i64 a2_3] 25 (0, 0))) ∧ (w'.heap[gb627]? = some (.cells #[.int .i64 t624, .int .i64 t625] 34 (0, 0))) ∧ (w'.heap[s_]? = some (.cells #[.int .i64 0, .int .i64 0] 34 (0, 0))) ∧ (w.heap.size ≤ s_) ∧ (w.heap.size ≤ s_) ∧ (gb615 ≠ s_) ∧ (s_ ≠ gb615) ∧ (gb616 ≠ s_) ∧ (s_ ≠ gb616) ∧ (gb627 ≠ s_) ∧ (s_ ≠ gb627) ∧ (Below w.heap.size w w')) ?_ ?_
   rotate_left
   ·intro hCont
    refine two_ (i := 2) (j := 9) (Ni := some 23) (Nj := some 9) #[true, true, true, true, false, false, false, false, false, false, false, false] #[true, true, false, true, false, false, false, false, false, true, false, false] rfl rfl rfl rfl (two_of HT_.out (by kernel_rfl)) (by decide) (by decide) (fun K hK => ?_) (fun K hK => ?_)
    ·skip
     refine goes_ Try.func12 (by kernel_rfl) rfl #[.agg #[.int .i64 a1_0, .int .i64 a1_1, .int .i64 a1_2]] (by rfl) rfl rfl (by (try simp only [List.map_toArray, List.map_cons, List.map_nil]); first | done | rfl | (simp only [List.length_drop, List.length_take]; rfl)) ?_
     with_reducible refine (laws_toLattice.calls a1_0 a1_1 a1_2 t628 t629 t630 _ A7.out).mono ?_
     rintro e w25 ⟨rfl, hb⟩
     refine ⟨_, rfl, ?_⟩
     have n0_ := Aside0.mk (bbl BK615 hb)
     have n1_ := Aside0.mk (bbl BK616 hb)
     have n2_ := Aside0.mk (bbl BK627 hb)
     have n3_ := Aside0.mk (bst3 HB GE615 GE616 GE627 hb)
     clear BK615
     clear BK616
     clear BK627
     clear HB
     have BK615 := n0_
     have BK616 := n1_
     have BK627 := n2_
     have HB := n3_
     clear n0_ n1_ n2_ n3_
     (try clear hb)
     (try clear hb2)
     (try clear hk)
     (try clear hi)
     refine hK.out _ _ ⟨bcl BK615 0, bcl BK615 1, bcl BK615 2, bcl BK616 0, bcl BK616 1, bcl BK616 2, bcl BK616 3⟩ (fun hHeld => ?_)
     clear hK K
     refine norm_ (a' := ?_) ?_ ?_
     rotate_left
     ·show Act.put _ (some 23) _ = _
      simp only [Act.put, sA, sB, sC, i64_w, i32_w]
      rfl
     refine two_ (i := 4) (j := 9) (Ni := some 25) (Nj := some 9) #[true, true, true, true, true, false, false, false, false, false, false, false] #[true, true, true, true, false, false, false, false, false, true, false, false] rfl rfl rfl rfl (two_of HT_.out (by kernel_rfl)) (by decide) (by decide) (fun K hK => ?_) (fun K hK => ?_)
     ·skip
      refine goes_ Try.func24 (by kernel_rfl) rfl #[.agg #[.int .i64 a2_0, .int .i64 a2_1, .int .i64 a2_2, .int .i64 a2_3]] (by rfl) rfl rfl (by (try simp only [List.map_toArray, List.map_cons, List.map_nil]); first | done | rfl | (simp only [List.length_drop, List.length_take]; rfl)) ?_
      with_reducible refine (laws_toMat.calls a2_0 a2_1 a2_2 a2_3 t631 t632 t633 t634 _ A8.out).mono ?_
      rintro e w26 ⟨rfl, hb⟩
      refine ⟨_, rfl, ?_⟩
      have n0_ := Aside0.mk (bbl BK615 hb)
      have n1_ := Aside0.mk (bbl BK616 hb)
      have n2_ := Aside0.mk (bbl BK627 hb)
      have n3_ := Aside0.mk (bst3 HB GE615 GE616 GE627 hb)
      clear BK615
      clear BK616
      clear BK627
      clear HB
      have BK615 := n0_
      have BK616 := n1_
      have BK627 := n2_
      have HB := n3_
      clear n0_ n1_ n2_ n3_
      (try clear hb)
      (try clear hb2)
      (try clear hk)
      (try clear hi)
      refine hK.out _ _ ⟨bcl BK615 0, bcl BK615 1, bcl BK615 2, bcl BK616 0, bcl BK616 1, bcl BK616 2, bcl BK616 3⟩ (fun hHeld => ?_)
      clear hK K
      refine norm_ (a' := ?_) ?_ ?_
      rotate_left
      ·show Act.put _ (some 25) _ = _
       simp only [Act.put, sA, sB, sC, i64_w, i32_w]
       rfl
      refine two_ (i := 5) (j := 9) (Ni := some 26) (Nj := some 9) #[true, true, true, true, true, true, false, false, false, false, false, false] #[true, true, true, true, true, false, false, false, false, true, false, false] rfl rfl rfl rfl (two_of HT_.out (by kernel_rfl)) (by decide) (by decide) (fun K hK => ?_) (fun K hK => ?_)
      ·skip
       refine goes_ Try.func25 (by kernel_rfl) rfl #[.int .i64 a0, .agg #[.int .i64 t628, .int .i64 t629, .int .i64 t630], .agg #[.int .i64 t631, .int .i64 t632, .int .i64 t633, .int .i64 t634]] (by rfl) rfl rfl (by (try simp only [List.map_toArray, List.map_cons, List.map_nil]); first | done | rfl | (simp only [List.length_drop, List.length_take]; rfl)) ?_
       with_reducible refine (impl_InvariantVec.calls k a0 t628 t629 t630 t631 t632 t633 t634 t635 t636 t637 _ A9.out).mono ?_
       rintro e w27 ⟨rfl, hb⟩
       refine ⟨_, rfl, ?_⟩
       have n0_ := Aside0.mk (bbl BK615 hb)
       have n1_ := Aside0.mk (bbl BK616 hb)
       have n2_ := Aside0.mk (bbl BK627 hb)
       have n3_ := Aside0.mk (bst3 HB GE615 GE616 GE627 hb)
       clear BK615
       clear BK616
       clear BK627
       clear HB
       have BK615 := n0_
       have BK616 := n1_
       have BK627 := n2_
       have HB := n3_
       clear n0_ n1_ n2_ n3_
       (try clear hb)
       (try clear hb2)
       (try clear hk)
       (try clear hi)
       refine hK.out _ _ ⟨bcl BK615 0, bcl BK615 1, bcl BK615 2, bcl BK616 0, bcl BK616 1, bcl BK616 2, bcl BK616 3⟩ (fun hHeld => ?_)
       clear hK K
       refine norm_ (a' := ?_) ?_ ?_
       rotate_left
       ·show Act.put _ (some 26) _ = _
        simp only [Act.put, sA, sB, sC, i64_w, i32_w]
        rfl
       refine pure_ (i := 6) (N := some 20) (v := ?_) (a' := ?_) #[true, true, true, true, true, true, true, false, false, false, false, false] rfl rfl (any_of HT_.out (by kernel_rfl)) (fun _ _ _ h => h) (Or.inl ⟨by rfl, ?_⟩) ?_ ?_
       rotate_left
       ·intro w'
        go_simp
        with_reducible rfl
       rotate_left
       ·simp only [Act.put, sA, sB, sC, i64_w, i32_w]
        rfl
       refine pure_ (i := 7) (N := some 27) (v := ?_) (a' := ?_) #[true, true, true, true, true, true, true, true, false, false, false, false] rfl rfl (any_of HT_.out (by kernel_rfl)) (fun _ _ _ h => h) (Or.inl ⟨by rfl, ?_⟩) ?_ ?_
       rotate_left
       ·intro w'
        go_simp
        with_reducible rfl
       rotate_left
       ·simp only [Act.put, sA, sB, sC, i64_w, i32_w]
        rfl
       refine pure_ (i := 8) (N := some 28) (v := ?_) (a' := ?_) #[true, true, true, true, true, true, true, true, true, false, false, false] rfl rfl (any_of HT_.out (by kernel_rfl)) (fun _ _ _ h => h) (Or.inl ⟨by rfl, ?_⟩) ?_ ?_
       rotate_left
       ·intro w'
        go_simp
        with_reducible rfl
       rotate_left
       ·simp only [Act.put, sA, sB, sC, i64_w, i32_w]
        rfl
       refine one_ (i := 9) (N := some 9) #[true, true, true, true, true, true, true, true, true, true, false, false] rfl rfl (one_of HT_.out (by kernel_rfl)) (by decide) (fun K hK => ?_)
       refine box_step ?hg (N := 9) ?hd (cs := #[.int .i64 0, .int .i64 0]) (t := 34) ?hr ?_; (case hd => rfl); (case hg => rfl); (case hr => first | (go_simp; done) | (go_simp; rfl))
       intro gb638 hg w28 hbox hb
       have n0_ := Aside0.mk (bbl BK615 hb)
       have n1_ := Aside0.mk (bbl BK616 hb)
       have n2_ := Aside0.mk (bbl BK627 hb)
       have n3_ := Aside0.mk (bst3 HB GE615 GE616 GE627 hb)
       have n4_ := Aside0.mk (hbox)
       have n5_ := ngw3 hg HB GE615 GE616 GE627
       have n6_ := ngw3 hg HB GE615 GE616 GE627
       have n7_ := nlt hg BK615
       have n8_ := nsy (nlt hg BK615)
       have n9_ := nlt hg BK616
       have n10_ := nsy (nlt hg BK616)
       have n11_ := nlt hg BK627
       have n12_ := nsy (nlt hg BK627)
       clear BK615
       clear BK616
       clear BK627
       clear HB
       have BK615 := n0_
       have BK616 := n1_
       have BK627 := n2_
       have HB := n3_
       have BK638 := n4_
       have GW638 := n5_
       have GE638 := n6_
       have NB615_638 := n7_
       have NB638_615 := n8_
       have NB616_638 := n9_
       have NB638_616 := n10_
       have NB627_638 := n11_
       have NB638_627 := n12_
       clear n0_ n1_ n2_ n3_ n4_ n5_ n6_ n7_ n8_ n9_ n10_ n11_ n12_
       clear hb hbox hg
       refine hK.out _ _ ⟨bcl BK615 0, bcl BK615 1, bcl BK615 2, bcl BK616 0, bcl BK616 1, bcl BK616 2, bcl BK616 3⟩ (fun hHeld => ?_)
       clear hK K
       refine norm_ (a' := ?_) ?_ ?_
       rotate_left
       ·show Act.put _ (some 9) _ = _
        simp only [Act.put, sA, sB, sC, i64_w, i32_w]
        rfl
       exact norm_ (by simp only [putAll, Act.put, sA, sB, sC]) (hCont (gb638) _ ⟨hHeld, (bkp BK615), (bkp BK616), (bkp BK627), (bkp BK638), GW638.out, GE638.out, NB615_638.out, NB638_615.out, NB616_638.out, NB638_616.out, NB627_638.out, NB638_627.out, (bbw4 HB GE615 GE616 GE627 GE638)⟩)
      ·skip
       refine box_step ?hg (N := 9) ?hd (cs := #[.int .i64 0, .int .i64 0]) (t := 34) ?hr ?_; (case hd => rfl); (case hg => rfl); (case hr => first | (go_simp; done) | (go_simp; rfl))
       intro gb638 hg w27 hbox hb
       have n0_ := Aside0.mk (bbl BK615 hb)
       have n1_ := Aside0.mk (bbl BK616 hb)
       have n2_ := Aside0.mk (bbl BK627 hb)
       have n3_ := Aside0.mk (bst3 HB GE615 GE616 GE627 hb)
       have n4_ := Aside0.mk (hbox)
       have n5_ := ngw3 hg HB GE615 GE616 GE627
       have n6_ := ngw3 hg HB GE615 GE616 GE627
       have n7_ := nlt hg BK615
       have n8_ := nsy (nlt hg BK615)
       have n9_ := nlt hg BK616
       have n10_ := nsy (nlt hg BK616)
       have n11_ := nlt hg BK627
       have n12_ := nsy (nlt hg BK627)
       clear BK615
       clear BK616
       clear BK627
       clear HB
       have BK615 := n0_
       have BK616 := n1_
       have BK627 := n2_
       have HB := n3_
       have BK638 := n4_
       have GW638 := n5_
       have GE638 := n6_
       have NB615_638 := n7_
       have NB638_615 := n8_
       have NB616_638 := n9_
       have NB638_616 := n10_
       have NB627_638 := n11_
       have NB638_627 := n12_
       clear n0_ n1_ n2_ n3_ n4_ n5_ n6_ n7_ n8_ n9_ n10_ n11_ n12_
       clear hb hbox hg
       refine hK.out _ _ ⟨bcl BK615 0, bcl BK615 1, bcl BK615 2, bcl BK616 0, bcl BK616 1, bcl BK616 2, bcl BK616 3⟩ (fun hHeld => ?_)
       clear hK K
       refine norm_ (a' := ?_) ?_ ?_
       rotate_left
       ·show Act.put _ (some 9) _ = _
        simp only [Act.put, sA, sB, sC, i64_w, i32_w]
        rfl
       refine one_ (i := 5) (N := some 26) #[true, true, true, true, true, true, false, false, false, true, false, false] rfl rfl (one_of HT_.out (by kernel_rfl)) (by decide) (fun K hK => ?_)
       refine goes_ Try.func25 (by kernel_rfl) rfl #[.int .i64 a0, .agg #[.int .i64 t628, .int .i64 t629, .int .i64 t630], .agg #[.int .i64 t631, .int .i64 t632, .int .i64 t633, .int .i64 t634]] (by rfl) rfl rfl (by (try simp only [List.map_toArray, List.map_cons, List.map_nil]); first | done | rfl | (simp only [List.length_drop, List.length_take]; rfl)) ?_
       with_reducible refine (impl_InvariantVec.calls k a0 t628 t629 t630 t631 t632 t633 t634 t635 t636 t637 _ A9.out).mono ?_
       rintro e w28 ⟨rfl, hb⟩
       refine ⟨_, rfl, ?_⟩
       have n0_ := Aside0.mk (bbl BK615 hb)
       have n1_ := Aside0.mk (bbl BK616 hb)
       have n2_ := Aside0.mk (bbl BK627 hb)
       have n3_ := Aside0.mk (bbl BK638 hb)
       have n4_ := Aside0.mk (bst4 HB GE615 GE616 GE627 GE638 hb)
       clear BK615
       clear BK616
       clear BK627
       clear BK638
       clear HB
       have BK615 := n0_
       have BK616 := n1_
       have BK627 := n2_
       have BK638 := n3_
       have HB := n4_
       clear n0_ n1_ n2_ n3_ n4_
       (try clear hb)
       (try clear hb2)
       (try clear hk)
       (try clear hi)
       refine hK.out _ _ ⟨bcl BK615 0, bcl BK615 1, bcl BK615 2, bcl BK616 0, bcl BK616 1, bcl BK616 2, bcl BK616 3⟩ (fun hHeld => ?_)
       clear hK K
       refine norm_ (a' := ?_) ?_ ?_
       rotate_left
       ·show Act.put _ (some 26) _ = _
        simp only [Act.put, sA, sB, sC, i64_w, i32_w]
        rfl
       refine pure_ (i := 6) (N := some 20) (v := ?_) (a' := ?_) #[true, true, true, true, true, true, true, false, false, true, false, false] rfl rfl (any_of HT_.out (by kernel_rfl)) (fun _ _ _ h => h) (Or.inl ⟨by rfl, ?_⟩) ?_ ?_
       rotate_left
       ·intro w'
        go_simp
        with_reducible rfl
       rotate_left
       ·simp only [Act.put, sA, sB, sC, i64_w, i32_w]
        rfl
       refine pure_ (i := 7) (N := some 27) (v := ?_) (a' := ?_) #[true, true, true, true, true, true, true, true, false, true, false, false] rfl rfl (any_of HT_.out (by kernel_rfl)) (fun _ _ _ h => h) (Or.inl ⟨by rfl, ?_⟩) ?_ ?_
       rotate_left
       ·intro w'
        go_simp
        with_reducible rfl
       rotate_left
       ·simp only [Act.put, sA, sB, sC, i64_w, i32_w]
        rfl
       refine pure_ (i := 8) (N := some 28) (v := ?_) (a' := ?_) #[true, true, true, true, true, true, true, true, true, true, false, false] rfl rfl (any_of HT_.out (by kernel_rfl)) (fun _ _ _ h => h) (Or.inl ⟨by rfl, ?_⟩) ?_ ?_
       rotate_left
       ·intro w'
        go_simp
        with_reducible rfl
       rotate_left
       ·simp only [Act.put, sA, sB, sC, i64_w, i32_w]
        rfl
       exact norm_ (by simp only [putAll, Act.put, sA, sB, sC]) (hCont (gb638) _ ⟨hHeld, (bkp BK615), (bkp BK616), (bkp BK627), (bkp BK638), GW638.out, GE638.out, NB615_638.out, NB638_615.out, NB616_638.out, NB638_616.out, NB627_638.out, NB638_627.out, (bbw4 HB GE615 GE616 GE627 GE638)⟩)
     ·skip
      refine box_step ?hg (N := 9) ?hd (cs := #[.int .i64 0, .int .i64 0]) (t := 34) ?hr ?_; (case hd => rfl); (case hg => rfl); (case hr => first | (go_simp; done) | (go_simp; rfl))
      intro gb638 hg w26 hbox hb
      have n0_ := Aside0.mk (bbl BK615 hb)
      have n1_ := Aside0.mk (bbl BK616 hb)
      have n2_ := Aside0.mk (bbl BK627 hb)
      have n3_ := Aside0.mk (bst3 HB GE615 GE616 GE627 hb)
      have n4_ := Aside0.mk (hbox)
      have n5_ := ngw3 hg HB GE615 GE616 GE627
      have n6_ := ngw3 hg HB GE615 GE616 GE627
      have n7_ := nlt hg BK615
      have n8_ := nsy (nlt hg BK615)
      have n9_ := nlt hg BK616
      have n10_ := nsy (nlt hg BK616)
      have n11_ := nlt hg BK627
      have n12_ := nsy (nlt hg BK627)
      clear BK615
      clear BK616
      clear BK627
      clear HB
      have BK615 := n0_
      have BK616 := n1_
      have BK627 := n2_
      have HB := n3_
      have BK638 := n4_
      have GW638 := n5_
      have GE638 := n6_
      have NB615_638 := n7_
      have NB638_615 := n8_
      have NB616_638 := n9_
      have NB638_616 := n10_
      have NB627_638 := n11_
      have NB638_627 := n12_
      clear n0_ n1_ n2_ n3_ n4_ n5_ n6_ n7_ n8_ n9_ n10_ n11_ n12_
      clear hb hbox hg
      refine hK.out _ _ ⟨bcl BK615 0, bcl BK615 1, bcl BK615 2, bcl BK616 0, bcl BK616 1, bcl BK616 2, bcl BK616 3⟩ (fun hHeld => ?_)
      clear hK K
      refine norm_ (a' := ?_) ?_ ?_
      rotate_left
      ·show Act.put _ (some 9) _ = _
       simp only [Act.put, sA, sB, sC, i64_w, i32_w]
       rfl
      refine one_ (i := 4) (N := some 25) #[true, true, true, true, true, false, false, false, false, true, false, false] rfl rfl (one_of HT_.out (by kernel_rfl)) (by decide) (fun K hK => ?_)
      refine goes_ Try.func24 (by kernel_rfl) rfl #[.agg #[.int .i64 a2_0, .int .i64 a2_1, .int .i64 a2_2, .int .i64 a2_3]] (by rfl) rfl rfl (by (try simp only [List.map_toArray, List.map_cons, List.map_nil]); first | done | rfl | (simp only [List.length_drop, List.length_take]; rfl)) ?_
      with_reducible refine (laws_toMat.calls a2_0 a2_1 a2_2 a2_3 t631 t632 t633 t634 _ A8.out).mono ?_
      rintro e w27 ⟨rfl, hb⟩
      refine ⟨_, rfl, ?_⟩
      have n0_ := Aside0.mk (bbl BK615 hb)
      have n1_ := Aside0.mk (bbl BK616 hb)
      have n2_ := Aside0.mk (bbl BK627 hb)
      have n3_ := Aside0.mk (bbl BK638 hb)
      have n4_ := Aside0.mk (bst4 HB GE615 GE616 GE627 GE638 hb)
      clear BK615
      clear BK616
      clear BK627
      clear BK638
      clear HB
      have BK615 := n0_
      have BK616 := n1_
      have BK627 := n2_
      have BK638 := n3_
      have HB := n4_
      clear n0_ n1_ n2_ n3_ n4_
      (try clear hb)
      (try clear hb2)
      (try clear hk)
      (try clear hi)
      refine hK.out _ _ ⟨bcl BK615 0, bcl BK615 1, bcl BK615 2, bcl BK616 0, bcl BK616 1, bcl BK616 2, bcl BK616 3⟩ (fun hHeld => ?_)
      clear hK K
      refine norm_ (a' := ?_) ?_ ?_
      rotate_left
      ·show Act.put _ (some 25) _ = _
       simp only [Act.put, sA, sB, sC, i64_w, i32_w]
       rfl
      refine one_ (i := 5) (N := some 26) #[true, true, true, true, true, true, false, false, false, true, false, false] rfl rfl (one_of HT_.out (by kernel_rfl)) (by decide) (fun K hK => ?_)
      refine goes_ Try.func25 (by kernel_rfl) rfl #[.int .i64 a0, .agg #[.int .i64 t628, .int .i64 t629, .int .i64 t630], .agg #[.int .i64 t631, .int .i64 t632, .int .i64 t633, .int .i64 t634]] (by rfl) rfl rfl (by (try simp only [List.map_toArray, List.map_cons, List.map_nil]); first | done | rfl | (simp only [List.length_drop, List.length_take]; rfl)) ?_
      with_reducible refine (impl_InvariantVec.calls k a0 t628 t629 t630 t631 t632 t633 t634 t635 t636 t637 _ A9.out).mono ?_
      rintro e w28 ⟨rfl, hb⟩
      refine ⟨_, rfl, ?_⟩
      have n0_ := Aside0.mk (bbl BK615 hb)
      have n1_ := Aside0.mk (bbl BK616 hb)
      have n2_ := Aside0.mk (bbl BK627 hb)
      have n3_ := Aside0.mk (bbl BK638 hb)
      have n4_ := Aside0.mk (bst4 HB GE615 GE616 GE627 GE638 hb)
      clear BK615
      clear BK616
      clear BK627
      clear BK638
      clear HB
      have BK615 := n0_
      have BK616 := n1_
      have BK627 := n2_
      have BK638 := n3_
      have HB := n4_
      clear n0_ n1_ n2_ n3_ n4_
      (try clear hb)
      (try clear hb2)
      (try clear hk)
      (try clear hi)
      refine hK.out _ _ ⟨bcl BK615 0, bcl BK615 1, bcl BK615 2, bcl BK616 0, bcl BK616 1, bcl BK616 2, bcl BK616 3⟩ (fun hHeld => ?_)
      clear hK K
      refine norm_ (a' := ?_) ?_ ?_
      rotate_left
      ·show Act.put _ (some 26) _ = _
       simp only [Act.put, sA, sB, sC, i64_w, i32_w]
       rfl
      refine pure_ (i := 6) (N := some 20) (v := ?_) (a' := ?_) #[true, true, true, true, true, true, true, false, false, true, false, false] rfl rfl (any_of HT_.out (by kernel_rfl)) (fun _ _ _ h => h) (Or.inl ⟨by rfl, ?_⟩) ?_ ?_
      rotate_left
      ·intro w'
       go_simp
       with_reducible rfl
      rotate_left
      ·simp only [Act.put, sA, sB, sC, i64_w, i32_w]
       rfl
      refine pure_ (i := 7) (N := some 27) (v := ?_) (a' := ?_) #[true, true, true, true, true, true, true, true, false, true, false, false] rfl rfl (any_of HT_.out (by kernel_rfl)) (fun _ _ _ h => h) (Or.inl ⟨by rfl, ?_⟩) ?_ ?_
      rotate_left
      ·intro w'
       go_simp
       with_reducible rfl
      rotate_left
      ·simp only [Act.put, sA, sB, sC, i64_w, i32_w]
       rfl
      refine pure_ (i := 8) (N := some 28) (v := ?_) (a' := ?_) #[true, true, true, true, true, true, true, true, true, true, false, false] rfl rfl (any_of HT_.out (by kernel_rfl)) (fun _ _ _ h => h) (Or.inl ⟨by rfl, ?_⟩) ?_ ?_
      rotate_left
      ·intro w'
       go_simp
       with_reducible rfl
      rotate_left
      ·simp only [Act.put, sA, sB, sC, i64_w, i32_w]
       rfl
      exact norm_ (by simp only [putAll, Act.put, sA, sB, sC]) (hCont (gb638) _ ⟨hHeld, (bkp BK615), (bkp BK616), (bkp BK627), (bkp BK638), GW638.out, GE638.out, NB615_638.out, NB638_615.out, NB616_638.out, NB638_616.out, NB627_638.out, NB638_627.out, (bbw4 HB GE615 GE616 GE627 GE638)⟩)
    ·skip
     refine box_step ?hg (N := 9) ?hd (cs := #[.int .i64 0, .int .i64 0]) (t := 34) ?hr ?_; (case hd => rfl); (case hg => rfl); (case hr => first | (go_simp; done) | (go_simp; rfl))
     intro gb638 hg w25 hbox hb
     have n0_ := Aside0.mk (bbl BK615 hb)
     have n1_ := Aside0.mk (bbl BK616 hb)
     have n2_ := Aside0.mk (bbl BK627 hb)
     have n3_ := Aside0.mk (bst3 HB GE615 GE616 GE627 hb)
     have n4_ := Aside0.mk (hbox)
     have n5_ := ngw3 hg HB GE615 GE616 GE627
     have n6_ := ngw3 hg HB GE615 GE616 GE627
     have n7_ := nlt hg BK615
     have n8_ := nsy (nlt hg BK615)
     have n9_ := nlt hg BK616
     have n10_ := nsy (nlt hg BK616)
     have n11_ := nlt hg BK627
     have n12_ := nsy (nlt hg BK627)
     clear BK615
     clear BK616
     clear BK627
     clear HB
     have BK615 := n0_
     have BK616 := n1_
     have BK627 := n2_
     have HB := n3_
     have BK638 := n4_
     have GW638 := n5_
     have GE638 := n6_
     have NB615_638 := n7_
     have NB638_615 := n8_
     have NB616_638 := n9_
     have NB638_616 := n10_
     have NB627_638 := n11_
     have NB638_627 := n12_
     clear n0_ n1_ n2_ n3_ n4_ n5_ n6_ n7_ n8_ n9_ n10_ n11_ n12_
     clear hb hbox hg
     refine hK.out _ _ ⟨bcl BK615 0, bcl BK615 1, bcl BK615 2, bcl BK616 0, bcl BK616 1, bcl BK616 2, bcl BK616 3⟩ (fun hHeld => ?_)
     clear hK K
     refine norm_ (a' := ?_) ?_ ?_
     rotate_left
     ·show Act.put _ (some 9) _ = _
      simp only [Act.put, sA, sB, sC, i64_w, i32_w]
      rfl
     refine one_ (i := 2) (N := some 23) #[true, true, true, true, false, false, false, false, false, true, false, false] rfl rfl (one_of HT_.out (by kernel_rfl)) (by decide) (fun K hK => ?_)
     refine goes_ Try.func12 (by kernel_rfl) rfl #[.agg #[.int .i64 a1_0, .int .i64 a1_1, .int .i64 a1_2]] (by rfl) rfl rfl (by (try simp only [List.map_toArray, List.map_cons, List.map_nil]); first | done | rfl | (simp only [List.length_drop, List.length_take]; rfl)) ?_
     with_reducible refine (laws_toLattice.calls a1_0 a1_1 a1_2 t628 t629 t630 _ A7.out).mono ?_
     rintro e w26 ⟨rfl, hb⟩
     refine ⟨_, rfl, ?_⟩
     have n0_ := Aside0.mk (bbl BK615 hb)
     have n1_ := Aside0.mk (bbl BK616 hb)
     have n2_ := Aside0.mk (bbl BK627 hb)
     have n3_ := Aside0.mk (bbl BK638 hb)
     have n4_ := Aside0.mk (bst4 HB GE615 GE616 GE627 GE638 hb)
     clear BK615
     clear BK616
     clear BK627
     clear BK638
     clear HB
     have BK615 := n0_
     have BK616 := n1_
     have BK627 := n2_
     have BK638 := n3_
     have HB := n4_
     clear n0_ n1_ n2_ n3_ n4_
     (try clear hb)
     (try clear hb2)
     (try clear hk)
     (try clear hi)
     refine hK.out _ _ ⟨bcl BK615 0, bcl BK615 1, bcl BK615 2, bcl BK616 0, bcl BK616 1, bcl BK616 2, bcl BK616 3⟩ (fun hHeld => ?_)
     clear hK K
     refine norm_ (a' := ?_) ?_ ?_
     rotate_left
     ·show Act.put _ (some 23) _ = _
      simp only [Act.put, sA, sB, sC, i64_w, i32_w]
      rfl
     refine one_ (i := 4) (N := some 25) #[true, true, true, true, true, false, false, false, false, true, false, false] rfl rfl (one_of HT_.out (by kernel_rfl)) (by decide) (fun K hK => ?_)
     refine goes_ Try.func24 (by kernel_rfl) rfl #[.agg #[.int .i64 a2_0, .int .i64 a2_1, .int .i64 a2_2, .int .i64 a2_3]] (by rfl) rfl rfl (by (try simp only [List.map_toArray, List.map_cons, List.map_nil]); first | done | rfl | (simp only [List.length_drop, List.length_take]; rfl)) ?_
     with_reducible refine (laws_toMat.calls a2_0 a2_1 a2_2 a2_3 t631 t632 t633 t634 _ A8.out).mono ?_
     rintro e w27 ⟨rfl, hb⟩
     refine ⟨_, rfl, ?_⟩
     have n0_ := Aside0.mk (bbl BK615 hb)
     have n1_ := Aside0.mk (bbl BK616 hb)
     have n2_ := Aside0.mk (bbl BK627 hb)
     have n3_ := Aside0.mk (bbl BK638 hb)
     have n4_ := Aside0.mk (bst4 HB GE615 GE616 GE627 GE638 hb)
     clear BK615
     clear BK616
     clear BK627
     clear BK638
     clear HB
     have BK615 := n0_
     have BK616 := n1_
     have BK627 := n2_
     have BK638 := n3_
     have HB := n4_
     clear n0_ n1_ n2_ n3_ n4_
     (try clear hb)
     (try clear hb2)
     (try clear hk)
     (try clear hi)
     refine hK.out _ _ ⟨bcl BK615 0, bcl BK615 1, bcl BK615 2, bcl BK616 0, bcl BK616 1, bcl BK616 2, bcl BK616 3⟩ (fun hHeld => ?_)
     clear hK K
     refine norm_ (a' := ?_) ?_ ?_
     rotate_left
     ·show Act.put _ (some 25) _ = _
      simp only [Act.put, sA, sB, sC, i64_w, i32_w]
      rfl
     refine one_ (i := 5) (N := some 26) #[true, true, true, true, true, true, false, false, false, true, false, false] rfl rfl (one_of HT_.out (by kernel_rfl)) (by decide) (fun K hK => ?_)
     refine goes_ Try.func25 (by kernel_rfl) rfl #[.int .i64 a0, .agg #[.int .i64 t628, .int .i64 t629, .int .i64 t630], .agg #[.int .i64 t631, .int .i64 t632, .int .i64 t633, .int .i64 t634]] (by rfl) rfl rfl (by (try simp only [List.map_toArray, List.map_cons, List.map_nil]); first | done | rfl | (simp only [List.length_drop, List.length_take]; rfl)) ?_
     with_reducible refine (impl_InvariantVec.calls k a0 t628 t629 t630 t631 t632 t633 t634 t635 t636 t637 _ A9.out).mono ?_
     rintro e w28 ⟨rfl, hb⟩
     refine ⟨_, rfl, ?_⟩
     have n0_ := Aside0.mk (bbl BK615 hb)
     have n1_ := Aside0.mk (bbl BK616 hb)
     have n2_ := Aside0.mk (bbl BK627 hb)
     have n3_ := Aside0.mk (bbl BK638 hb)
     have n4_ := Aside0.mk (bst4 HB GE615 GE616 GE627 GE638 hb)
     clear BK615
     clear BK616
     clear BK627
     clear BK638
     clear HB
     have BK615 := n0_
     have BK616 := n1_
     have BK627 := n2_
     have BK638 := n3_
     have HB := n4_
     clear n0_ n1_ n2_ n3_ n4_
     (try clear hb)
     (try clear hb2)
     (try clear hk)
     (try clear hi)
     refine hK.out _ _ ⟨bcl BK615 0, bcl BK615 1, bcl BK615 2, bcl BK616 0, bcl BK616 1, bcl BK616 2, bcl BK616 3⟩ (fun hHeld => ?_)
     clear hK K
     refine norm_ (a' := ?_) ?_ ?_
     rotate_left
     ·show Act.put _ (some 26) _ = _
      simp only [Act.put, sA, sB, sC, i64_w, i32_w]
      rfl
     refine pure_ (i := 6) (N := some 20) (v := ?_) (a' := ?_) #[true, true, true, true, true, true, true, false, false, true, false, false] rfl rfl (any_of HT_.out (by kernel_rfl)) (fun _ _ _ h => h) (Or.inl ⟨by rfl, ?_⟩) ?_ ?_
     rotate_left
     ·intro w'
      go_simp
      with_reducible rfl
     rotate_left
     ·simp only [Act.put, sA, sB, sC, i64_w, i32_w]
      rfl
     refine pure_ (i := 7) (N := some 27) (v := ?_) (a' := ?_) #[true, true, true, true, true, true, true, true, false, true, false, false] rfl rfl (any_of HT_.out (by kernel_rfl)) (fun _ _ _ h => h) (Or.inl ⟨by rfl, ?_⟩) ?_ ?_
     rotate_left
     ·intro w'
      go_simp
      with_reducible rfl
     rotate_left
     ·simp only [Act.put, sA, sB, sC, i64_w, i32_w]
      rfl
     refine pure_ (i := 8) (N := some 28) (v := ?_) (a' := ?_) #[true, true, true, true, true, true, true, true, true, true, false, false] rfl rfl (any_of HT_.out (by kernel_rfl)) (fun _ _ _ h => h) (Or.inl ⟨by rfl, ?_⟩) ?_ ?_
     rotate_left
     ·intro w'
      go_simp
      with_reducible rfl
     rotate_left
     ·simp only [Act.put, sA, sB, sC, i64_w, i32_w]
      rfl
     exact norm_ (by simp only [putAll, Act.put, sA, sB, sC]) (hCont (gb638) _ ⟨hHeld, (bkp BK615), (bkp BK616), (bkp BK627), (bkp BK638), GW638.out, GE638.out, NB615_638.out, NB638_615.out, NB616_638.out, NB638_616.out, NB627_638.out, NB638_627.out, (bbw4 HB GE615 GE616 GE627 GE638)⟩)
   rintro gb638 w29 ⟨hS_, h0_, h1_, h2_, h3_, h4_, h5_, h6_, h7_, h8_, h9_, h10_, h11_, h12_⟩
   have n0_ : Aside0 (w29.heap[gb615]? = some (.cells #[.int .i64 a1_0, .int .i64 a1_1, .int .i64 a1_2] 23 (0, 0))) := ⟨h0_⟩
   have n1_ : Aside0 (w29.heap[gb616]? = some (.cells #[.int .i64 a2_0, .int .i64 a2_1, .int .i64 a2_2, .int .i64 a2_3] 25 (0, 0))) := ⟨h1_⟩
   have n2_ : Aside0 (w29.heap[gb627]? = some (.cells #[.int .i64 t624, .int .i64 t625] 34 (0, 0))) := ⟨h2_⟩
   have n3_ : Aside0 (w29.heap[gb638]? = some (.cells #[.int .i64 0, .int .i64 0] 34 (0, 0))) := ⟨h3_⟩
   have n4_ : Aside0 (w.heap.size ≤ gb638) := ⟨h4_⟩
   have n5_ : Aside0 (w.heap.size ≤ gb638) := ⟨h5_⟩
   have n6_ : Aside0 (gb615 ≠ gb638) := ⟨h6_⟩
   have n7_ : Aside0 (gb638 ≠ gb615) := ⟨h7_⟩
   have n8_ : Aside0 (gb616 ≠ gb638) := ⟨h8_⟩
   have n9_ : Aside0 (gb638 ≠ gb616) := ⟨h9_⟩
   have n10_ : Aside0 (gb627 ≠ gb638) := ⟨h10_⟩
   have n11_ : Aside0 (gb638 ≠ gb627) := ⟨h11_⟩
   have n12_ : Aside0 (Below w.heap.size w w29) := ⟨h12_⟩
   clear BK615
   clear BK616
   clear BK627
   clear HB
   clear h0_ h1_ h2_ h3_ h4_ h5_ h6_ h7_ h8_ h9_ h10_ h11_ h12_
   have BK615 := n0_
   have BK616 := n1_
   have BK627 := n2_
   have BK638 := n3_
   have GW638 := n4_
   have GE638 := n5_
   have NB615_638 := n6_
   have NB638_615 := n7_
   have NB616_638 := n8_
   have NB638_616 := n9_
   have NB627_638 := n10_
   have NB638_627 := n11_
   have HB := n12_
   clear n0_ n1_ n2_ n3_ n4_ n5_ n6_ n7_ n8_ n9_ n10_ n11_ n12_
   have hHeld : w29.cell? ⟨gb615, 0, none⟩ = some (.int .i64 a1_0) ∧ w29.cell? ⟨gb615, 1, none⟩ = some (.int .i64 a1_1) ∧ w29.cell? ⟨gb615, 2, none⟩ = some (.int .i64 a1_2) ∧ w29.cell? ⟨gb616, 0, none⟩ = some (.int .i64 a2_0) ∧ w29.cell? ⟨gb616, 1, none⟩ = some (.int .i64 a2_1) ∧ w29.cell? ⟨gb616, 2, none⟩ = some (.int .i64 a2_2) ∧ w29.cell? ⟨gb616, 3, none⟩ = some (.int .i64 a2_3) := hS_
   refine norm_ (a' := ?_) ?_ ?_
   rotate_left
   ·simp only [putAll, Act.put, sA, sB, sC]
    rfl
   refine one_ (i := 10) (N := none) #[true, true, true, true, true, true, true, true, true, true, true, false] rfl rfl (one_of HT_.out (by kernel_rfl)) (by decide) (fun K hK => ?_)
   have hs30 : w29.cell? ⟨gb638, 0, none⟩ = some (.int .i64 0) := bcl BK638 0
   have hfs30 := blk_frozen BK638.out 0
   have hns30_0 := NB615_638.out
   have hns30_1 := NB616_638.out
   have hns30_2 := NB627_638.out
   have hms30_0 := NB638_615.out
   have hms30_1 := NB638_616.out
   have hms30_2 := NB638_627.out
   have hs31 : w29.cell? ⟨gb638, 1, none⟩ = some (.int .i64 0) := bcl BK638 1
   have hfs31 := blk_frozen BK638.out 1
   have hns31_0 := NB615_638.out
   have hns31_1 := NB616_638.out
   have hns31_2 := NB627_638.out
   have hms31_0 := NB638_615.out
   have hms31_1 := NB638_616.out
   have hms31_2 := NB638_627.out
   refine skip_ (w1 := ?_) (by rfl) rfl ?_ ?_
   rotate_left
   ·go_simp
    rfl
   refine hK.out _ _ ⟨((cell_far (p := ⟨gb638, _, none⟩) NB615_638.out _).trans (((cell_far (p := ⟨gb638, _, none⟩) NB615_638.out _).trans (hHeld.1)))), ((cell_far (p := ⟨gb638, _, none⟩) NB615_638.out _).trans (((cell_far (p := ⟨gb638, _, none⟩) NB615_638.out _).trans (hHeld.2.1)))), ((cell_far (p := ⟨gb638, _, none⟩) NB615_638.out _).trans (((cell_far (p := ⟨gb638, _, none⟩) NB615_638.out _).trans (hHeld.2.2.1)))), ((cell_far (p := ⟨gb638, _, none⟩) NB616_638.out _).trans (((cell_far (p := ⟨gb638, _, none⟩) NB616_638.out _).trans (hHeld.2.2.2.1)))), ((cell_far (p := ⟨gb638, _, none⟩) NB616_638.out _).trans (((cell_far (p := ⟨gb638, _, none⟩) NB616_638.out _).trans (hHeld.2.2.2.2.1)))), ((cell_far (p := ⟨gb638, _, none⟩) NB616_638.out _).trans (((cell_far (p := ⟨gb638, _, none⟩) NB616_638.out _).trans (hHeld.2.2.2.2.2.1)))), ((cell_far (p := ⟨gb638, _, none⟩) NB616_638.out _).trans (((cell_far (p := ⟨gb638, _, none⟩) NB616_638.out _).trans (hHeld.2.2.2.2.2.2))))⟩ (fun hHeld => ?_)
   clear hK K
   refine pure_ (i := 11) (N := some 10) (v := ?_) (a' := ?_) #[true, true, true, true, true, true, true, true, true, true, true, true] rfl rfl (any_of HT_.out (by kernel_rfl)) (fun _ _ _ h => h) (Or.inl ⟨by rfl, ?_⟩) ?_ ?_
   rotate_left
   ·intro w'
    go_simp
    with_reducible rfl
   rotate_left
   ·simp only [Act.put, sA, sB, sC, i64_w, i32_w]
    rfl
   refine done_ (done_of HT_.out (by kernel_rfl)) ?_
   have hnb32 := NB638_615.out
   have hnc32 := NB615_638.out
   have hnb33 := NB638_616.out
   have hnc33 := NB616_638.out
   have hnb34 := NB638_627.out
   have hnc34 := NB627_638.out
   have hcz35_0 : w29.cell? ⟨gb638, 0, none⟩ = some (.int .i64 0) := bcl BK638 0
   have hcz35_1 : w29.cell? ⟨gb638, 1, none⟩ = some (.int .i64 0) := bcl BK638 1
   have hfz35_0 := blk_frozen BK638.out 0
   have hfz35_1 := blk_frozen BK638.out 1
   have hnb36 := NB627_615.out
   have hnc36 := NB615_627.out
   have hnb37 := NB627_616.out
   have hnc37 := NB616_627.out
   have hcz38_0 : w29.cell? ⟨gb627, 0, none⟩ = some (.int .i64 t624) := bcl BK627 0
   have hcz38_1 : w29.cell? ⟨gb627, 1, none⟩ = some (.int .i64 t625) := bcl BK627 1
   have hfz38_0 := blk_frozen BK627.out 0
   have hfz38_1 := blk_frozen BK627.out 1
   try go_wp2_with (first | ((with_reducible refine gate_callee (f := 26) rfl ?_); refine goesL_ (some 31) rfl rfl Try.func26 (by kernel_rfl) rfl #[.agg #[.int .i64 t635, .int .i64 t636], .agg #[.int .i64 t624, .int .i64 t625]] rfl (by (try simp only [List.map_toArray, List.map_cons, List.map_nil]); first | done | rfl | (simp only [List.length_drop, List.length_take]; rfl)) ?_; (with_reducible refine (laws_eqVec.calls t635 t636 t624 t625 true _ A10.out).mono ?_); rintro e w39 ⟨rfl, hb⟩; refine ⟨_, rfl, ?_⟩; have n0_ := Aside0.mk (blk_below (g := gb615) (o := .cells #[.int .i64 a1_0, .int .i64 a1_1, .int .i64 a1_2] 23 (0, 0)) (by (with_reducible repeat (first | refine blk_drewN ?_ _ | refine blk_drew ?_ | refine blk_alloc ?_ _)); refine blk_far ?_ NB615_638.out _; (with_reducible repeat (first | refine blk_drewN ?_ _ | refine blk_drew ?_ | refine blk_alloc ?_ _)); refine blk_far ?_ NB615_638.out _; (with_reducible repeat (first | refine blk_drewN ?_ _ | refine blk_drew ?_ | refine blk_alloc ?_ _)); exact BK615.out) hb); have n1_ := Aside0.mk (blk_below (g := gb616) (o := .cells #[.int .i64 a2_0, .int .i64 a2_1, .int .i64 a2_2, .int .i64 a2_3] 25 (0, 0)) (by (with_reducible repeat (first | refine blk_drewN ?_ _ | refine blk_drew ?_ | refine blk_alloc ?_ _)); refine blk_far ?_ NB616_638.out _; (with_reducible repeat (first | refine blk_drewN ?_ _ | refine blk_drew ?_ | refine blk_alloc ?_ _)); refine blk_far ?_ NB616_638.out _; (with_reducible repeat (first | refine blk_drewN ?_ _ | refine blk_drew ?_ | refine blk_alloc ?_ _)); exact BK616.out) hb); have n2_ := Aside0.mk (blk_below (g := gb627) (o := .cells #[.int .i64 t624, .int .i64 t625] 34 (0, 0)) (by (with_reducible repeat (first | refine blk_drewN ?_ _ | refine blk_drew ?_ | refine blk_alloc ?_ _)); refine blk_far ?_ NB627_638.out _; (with_reducible repeat (first | refine blk_drewN ?_ _ | refine blk_drew ?_ | refine blk_alloc ?_ _)); refine blk_far ?_ NB627_638.out _; (with_reducible repeat (first | refine blk_drewN ?_ _ | refine blk_drew ?_ | refine blk_alloc ?_ _)); exact BK627.out) hb); have n3_ := Aside0.mk (blk_below (g := gb638) (o := .cells #[.int .i64 t635, .int .i64 t636] 34 (0, 0)) (by (with_reducible repeat (first | refine blk_drewN ?_ _ | refine blk_drew ?_ | refine blk_alloc ?_ _)); refine blk_put (cs := #[.int .i64 t635, .int .i64 0]) ?_ 1 _ rfl; (with_reducible repeat (first | refine blk_drewN ?_ _ | refine blk_drew ?_ | refine blk_alloc ?_ _)); refine blk_put (cs := #[.int .i64 0, .int .i64 0]) ?_ 0 _ rfl; (with_reducible repeat (first | refine blk_drewN ?_ _ | refine blk_drew ?_ | refine blk_alloc ?_ _)); exact BK638.out) hb); have n4_ := Aside0.mk (bst4 HB GE615 GE616 GE627 GE638 hb); clear BK615; clear BK616; clear BK627; clear BK638; clear HB; have BK615 := n0_; have BK616 := n1_; have BK627 := n2_; have BK638 := n3_; have HB := n4_; clear n0_ n1_ n2_ n3_ n4_; (try clear hb); (try clear hb2); (try clear hk); (try clear hi)))
   go_ret
   exact ⟨by first | rfl | (simp [errW_none, errW_some] <;> rfl) | (simp [*, errW_none, errW_some] <;> rfl), bbw4 HB GE615 GE616 GE627 GE638⟩
  ·rw [if_neg c12] at H
   have c12b0 : (t637 == t626) = false := beq_eq_false_iff_ne.mpr c12
   have c12b1 : (t637 != t626) = true := bne_iff_ne.mpr c12
   exact absurd H (by simp)
 ·replace c11 := Bool.eq_false_iff.mpr c11
  subst c11
  have H1 : (some false) = some true := by rw [if_neg (show ¬ (false = true) by decide)] at H; first | done | exact H
  clear H
  have H := H1
  clear H1
  exact absurd H (by simp)

/-- The one plain statement of laws_FnExactInvariantVec. -/
def laws_FnExactInvariantVec.Pure : Prop := ∀ (a0 : Int) (a1_0 : Int) (a1_1 : Int) (a1_2 : Int) (a2_0 : Int) (a2_1 : Int) (a2_2 : Int) (a2_3 : Int), (Lit.int .i64 a0).wf = true → (Lit.int .i64 a1_0).wf = true → (Lit.int .i64 a1_1).wf = true → (Lit.int .i64 a1_2).wf = true → (Lit.int .i64 a2_0).wf = true → (Lit.int .i64 a2_1).wf = true → (Lit.int .i64 a2_2).wf = true → (Lit.int .i64 a2_3).wf = true → ∃ k, laws_FnExactInvariantVec.f k a0 a1_0 a1_1 a1_2 a2_0 a2_1 a2_2 a2_3 = some true
end Go.Proofs.Ytndfnaehpdkaiaa.PA
