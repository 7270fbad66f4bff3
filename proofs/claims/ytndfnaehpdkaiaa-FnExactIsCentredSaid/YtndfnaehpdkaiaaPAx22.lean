/- Walks written by program: each Go function that the law reaches comes to the plain function beside it. -/
import Derived.Test.YtndfnaehpdkaiaaPAx0
import Derived.Test.YtndfnaehpdkaiaaPAx5
import Derived.Test.YtndfnaehpdkaiaaPAx6
import Derived.Test.YtndfnaehpdkaiaaPAx10
import Derived.Test.YtndfnaehpdkaiaaPAx17
import Derived.Test.YtndfnaehpdkaiaaPAx20
import Derived.Test.YtndfnaehpdkaiaaPAx21
namespace Go.Proofs.Ytndfnaehpdkaiaa.PA
open Go.RowKit Go.Proofs.YtndfnaehpdkaiaaW.PrintWords Go.Proofs.YtndfnaehpdkaiaaW.PrintLast Go.Proofs.YtndfnaehpdkaiaaW.PrintMore
attribute [local go_sem] max2_int min2_int max_two min_two max_three min_three max_four min_four   -- for this text's walks alone
set_option linter.unusedVariables false
set_option linter.unusedSimpArgs false

/-! ### spec_IsCentred: function 27 -/
def spec_IsCentred.f (k : Nat) (a0 : Int) (a1_0 : Int) (a1_1 : Int) (a1_2 : Int) (a2_0 : Int) (a2_1 : Int) (a2_2 : Int) (a2_3 : Int) : Option (Bool × Int) := (spec_l11Mirror.f k a0 a1_0 a1_1 a1_2 a2_0 a2_1 a2_2 a2_3).bind fun t651 => ((spec_l06Code.f a0 a1_0 a1_1 a1_2 t651).bind fun t652 => (if t652 = 0 then ((spec_l11Centred.f k a1_0 a1_1 a1_2 a2_0 a2_1 a2_2 a2_3).bind fun t653 => (some (t653, 0))) else (some (false, t652))))
def spec_IsCentred.T1 : Bool × List (List Nat × List Nat) := (true, [([], []), ([], []), ([], []), ([], []), ([], []), ([2, 3, 4], [2, 3, 4]), ([0, 1, 5, 5], [0, 1, 5]), ([6, 6, 0, 1, 2, 3, 4, 5, 6], [6])])
def spec_IsCentred.B1 : List Nat := [0, 0, 0, 0, 0, 28, 63, 127]
theorem spec_IsCentred.tab1 : rtab .any (opsOf Try.f27 1) = spec_IsCentred.T1 := by kernel_rfl
theorem spec_IsCentred.bits1 : waitsOk spec_IsCentred.T1.2 spec_IsCentred.B1 = true := by kernel_rfl
set_option maxHeartbeats 8000000 in
set_option maxRecDepth 100000 in
theorem spec_IsCentred.calls (k : Nat) (a0 : Int) (a1_0 : Int) (a1_1 : Int) (a1_2 : Int) (a2_0 : Int) (a2_1 : Int) (a2_2 : Int) (a2_3 : Int) (r1 : Bool) (r2 : Int) (w : World) (h : spec_IsCentred.f k a0 a1_0 a1_1 a1_2 a2_0 a2_1 a2_2 a2_3 = some (r1, r2)) :
  Calls Try.prog 27 #[.int .i64 a0, .agg #[.int .i64 a1_0, .int .i64 a1_1, .int .i64 a1_2], .agg #[.int .i64 a2_0, .int .i64 a2_1, .int .i64 a2_2, .int .i64 a2_3]] w fun e w' => e = .returned (.tuple #[.bool r1, .int .i64 r2]) ∧ Below w.heap.size w w' := by
 have hu31 := Try.underlying31
 have hu33 := Try.underlying33
 have HB := Aside0.mk (Below.refl w.heap.size w)
 have H : ((spec_l11Mirror.f k a0 a1_0 a1_1 a1_2 a2_0 a2_1 a2_2 a2_3).bind fun t651 => ((spec_l06Code.f a0 a1_0 a1_1 a1_2 t651).bind fun t652 => (if t652 = 0 then ((spec_l11Centred.f k a1_0 a1_1 a1_2 a2_0 a2_1 a2_2 a2_3).bind fun t653 => (some (t653, 0))) else (some (false, t652))))) = some (r1, r2) := h
 clear h
 replace H := Option.bind_eq_some_iff.mp H
 obtain ⟨t651, A40, H⟩ := H
 replace H : ((spec_l06Code.f a0 a1_0 a1_1 a1_2 t651).bind fun t652 => (if t652 = 0 then ((spec_l11Centred.f k a1_0 a1_1 a1_2 a2_0 a2_1 a2_2 a2_3).bind fun t653 => (some (t653, 0))) else (some (false, t652)))) = some (r1, r2) := H
 have A4 := Aside0.mk A40
 clear A40
 replace H := Option.bind_eq_some_iff.mp H
 obtain ⟨t652, A50, H⟩ := H
 replace H : (if t652 = 0 then ((spec_l11Centred.f k a1_0 a1_1 a1_2 a2_0 a2_1 a2_2 a2_3).bind fun t653 => (some (t653, 0))) else (some (false, t652))) = some (r1, r2) := H
 have A5 := Aside0.mk A50
 clear A50
 by_cases c6 : t652 = 0
 ·rw [if_pos c6] at H
  have c6b0 : (t652 == 0) = true := beq_iff_eq.mpr c6
  have c6b1 : (t652 != 0) = false := bne_eq_false_iff_eq.mpr c6
  clear c6
  replace H := Option.bind_eq_some_iff.mp H
  obtain ⟨t653, A70, H⟩ := H
  replace H : (some (t653, 0)) = some (r1, r2) := H
  have A7 := Aside0.mk A70
  clear A70
  simp only [Option.some.injEq, Prod.mk.injEq] at H
  obtain ⟨rfl, rfl⟩ := H
  go_enter Try.func27, Try.ntmps27
  try go_wp2_with (first | ((with_reducible refine gate_dst (N := 4) rfl ?_); refine box_event ?hg (N := 4) ?hd (cs := #[.int .i64 a1_0, .int .i64 a1_1, .int .i64 a1_2]) (t := 31) ?hr ?_; (case hd => rfl); (case hg => rfl); (case hr => first | (go_simp; done) | (go_simp; rfl)); intro gb649 hg w8 hbox hb; have n0_ := Aside0.mk (bst0 HB hb); have n1_ := Aside0.mk (hbox); have n2_ := ngw0 hg HB; have n3_ := n2_; clear HB; have HB := n0_; have BK649 := n1_; have GW649 := n2_; have GE649 := n3_; clear n0_ n1_ n2_ n3_; clear hb hbox hg) | ((with_reducible refine gate_dst (N := 5) rfl ?_); refine box_event ?hg (N := 5) ?hd (cs := #[.int .i64 a2_0, .int .i64 a2_1, .int .i64 a2_2, .int .i64 a2_3]) (t := 33) ?hr ?_; (case hd => rfl); (case hg => rfl); (case hr => first | (go_simp; done) | (go_simp; rfl)); intro gb650 hg w9 hbox hb; have n0_ := Aside0.mk (bbl BK649 hb); have n1_ := Aside0.mk (bst1 HB GE649 hb); have n2_ := Aside0.mk (hbox); have n3_ := ngw1 hg HB GE649; have n4_ := n3_; have n5_ := nlt hg BK649; have n6_ := nsy (nlt hg BK649); clear BK649; clear HB; have BK649 := n0_; have HB := n1_; have BK650 := n2_; have GW650 := n3_; have GE650 := n4_; have NB649_650 := n5_; have NB650_649 := n6_; clear n0_ n1_ n2_ n3_ n4_ n5_ n6_; clear hb hbox hg))
  have n0_ := Aside0.mk (blk_drew BK649.out)
  have n1_ := Aside0.mk (blk_drew BK650.out)
  have n2_ := Aside0.mk (below_drew1 HB.out)
  clear BK649
  clear BK650
  clear HB
  have BK649 := n0_
  have BK650 := n1_
  have HB := n2_
  clear n0_ n1_ n2_
  refine start_ (n := 8) (S := fun w' => w'.cell? ⟨gb649, 0, none⟩ = some (.int .i64 a1_0) ∧ w'.cell? ⟨gb649, 1, none⟩ = some (.int .i64 a1_1) ∧ w'.cell? ⟨gb649, 2, none⟩ = some (.int .i64 a1_2) ∧ w'.cell? ⟨gb650, 0, none⟩ = some (.int .i64 a2_0) ∧ w'.cell? ⟨gb650, 1, none⟩ = some (.int .i64 a2_1) ∧ w'.cell? ⟨gb650, 2, none⟩ = some (.int .i64 a2_2) ∧ w'.cell? ⟨gb650, 3, none⟩ = some (.int .i64 a2_3)) (ds := []) #[false, false, false, false, false, false, false, false] (by kernel_rfl) rfl rfl ⟨bcl BK649 0, bcl BK649 1, bcl BK649 2, bcl BK650 0, bcl BK650 1, bcl BK650 2, bcl BK650 3⟩ (fun hHeld => ?_); refine with_tabW spec_IsCentred.tab1 spec_IsCentred.bits1 (fun HT_ HW_ => ?_)
  generalize w9.drew = w10 at BK649 BK650 HB hHeld ⊢
  refine pure_ (i := 0) (N := some 9) (v := ?_) (a' := ?_) #[true, false, false, false, false, false, false, false] rfl rfl (any_of HT_.out (by kernel_rfl)) (fun _ _ _ h => h) (Or.inl ⟨by rfl, ?_⟩) ?_ ?_
  rotate_left
  ·intro w'
   go_simp
   with_reducible rfl
  rotate_left
  ·simp only [Act.put, sA, sB, sC, i64_w, i32_w]
   rfl
  refine pure_ (i := 2) (N := some 11) (v := ?_) (a' := ?_) #[true, false, true, false, false, false, false, false] rfl rfl (any_of HT_.out (by kernel_rfl)) (fun _ _ _ h => h) (Or.inl ⟨by rfl, ?_⟩) ?_ ?_
  rotate_left
  ·intro w'
   go_simp
   with_reducible rfl
  rotate_left
  ·simp only [Act.put, sA, sB, sC, i64_w, i32_w]
   rfl
  refine take_ (i := 1) (N := some 10) (v := ?_) (a' := ?_) #[true, true, true, false, false, false, false, false] rfl rfl (take_ofW HT_.out HW_.out (by kernel_rfl)) (fun _ _ _ h => h) (Or.inl ⟨by rfl, ?_⟩) hHeld ?_ ?_
  rotate_left
  ·rintro w' ⟨s0, s1, s2, s3, s4, s5, s6⟩
   go_simp
   with_reducible rfl
  rotate_left
  ·simp only [Act.put, sA, sB, sC, i64_w, i32_w]
   rfl
  refine take_ (i := 3) (N := some 12) (v := ?_) (a' := ?_) #[true, true, true, true, false, false, false, false] rfl rfl (take_ofW HT_.out HW_.out (by kernel_rfl)) (fun _ _ _ h => h) (Or.inl ⟨by rfl, ?_⟩) hHeld ?_ ?_
  rotate_left
  ·rintro w' ⟨s0, s1, s2, s3, s4, s5, s6⟩
   go_simp
   with_reducible rfl
  rotate_left
  ·simp only [Act.put, sA, sB, sC, i64_w, i32_w]
   rfl
  refine take_ (i := 4) (N := some 13) (v := ?_) (a' := ?_) #[true, true, true, true, true, false, false, false] rfl rfl (take_ofW HT_.out HW_.out (by kernel_rfl)) (fun _ _ _ h => h) (Or.inl ⟨by rfl, ?_⟩) hHeld ?_ ?_
  rotate_left
  ·rintro w' ⟨s0, s1, s2, s3, s4, s5, s6⟩
   go_simp
   with_reducible rfl
  rotate_left
  ·simp only [Act.put, sA, sB, sC, i64_w, i32_w]
   rfl
  refine one_ (i := 5) (N := some 14) #[true, true, true, true, true, true, false, false] rfl rfl (one_of HT_.out (by kernel_rfl)) (by decide) (fun K hK => ?_)
  refine goes_ Try.func51 (by kernel_rfl) rfl #[.int .i64 a0, .agg #[.int .i64 a1_0, .int .i64 a1_1, .int .i64 a1_2], .agg #[.int .i64 a2_0, .int .i64 a2_1, .int .i64 a2_2, .int .i64 a2_3]] (by rfl) rfl rfl (by (try simp only [List.map_toArray, List.map_cons, List.map_nil]); first | done | rfl | (simp only [List.length_drop, List.length_take]; rfl)) ?_
  with_reducible refine (spec_l11Mirror.calls k a0 a1_0 a1_1 a1_2 a2_0 a2_1 a2_2 a2_3 t651 _ A4.out).mono ?_
  rintro e w11 ⟨rfl, hb⟩
  refine ⟨_, rfl, ?_⟩
  have n0_ := Aside0.mk (bbl BK649 hb)
  have n1_ := Aside0.mk (bbl BK650 hb)
  have n2_ := Aside0.mk (bst2 HB GE649 GE650 hb)
  clear BK649
  clear BK650
  clear HB
  have BK649 := n0_
  have BK650 := n1_
  have HB := n2_
  clear n0_ n1_ n2_
  (try clear hb)
  (try clear hb2)
  (try clear hk)
  (try clear hi)
  refine hK.out _ _ ⟨bcl BK649 0, bcl BK649 1, bcl BK649 2, bcl BK650 0, bcl BK650 1, bcl BK650 2, bcl BK650 3⟩ (fun hHeld => ?_)
  clear hK K
  refine norm_ (a' := ?_) ?_ ?_
  rotate_left
  ·show Act.put _ (some 14) _ = _
   simp only [Act.put, sA, sB, sC, i64_w, i32_w]
   rfl
  refine one_ (i := 6) (N := some 15) #[true, true, true, true, true, true, true, false] rfl rfl (one_of HT_.out (by kernel_rfl)) (by decide) (fun K hK => ?_)
  refine goes_ Try.func45 (by kernel_rfl) rfl #[.int .i64 a0, .agg #[.int .i64 a1_0, .int .i64 a1_1, .int .i64 a1_2], .bool t651] (by rfl) rfl rfl (by (try simp only [List.map_toArray, List.map_cons, List.map_nil]); first | done | rfl | (simp only [List.length_drop, List.length_take]; rfl)) ?_
  with_reducible refine (spec_l06Code.calls a0 a1_0 a1_1 a1_2 t651 t652 _ A5.out).mono ?_
  rintro e w12 ⟨rfl, hb⟩
  refine ⟨_, rfl, ?_⟩
  have n0_ := Aside0.mk (bbl BK649 hb)
  have n1_ := Aside0.mk (bbl BK650 hb)
  have n2_ := Aside0.mk (bst2 HB GE649 GE650 hb)
  clear BK649
  clear BK650
  clear HB
  have BK649 := n0_
  have BK650 := n1_
  have HB := n2_
  clear n0_ n1_ n2_
  (try clear hb)
  (try clear hb2)
  (try clear hk)
  (try clear hi)
  refine hK.out _ _ ⟨bcl BK649 0, bcl BK649 1, bcl BK649 2, bcl BK650 0, bcl BK650 1, bcl BK650 2, bcl BK650 3⟩ (fun hHeld => ?_)
  clear hK K
  refine norm_ (a' := ?_) ?_ ?_
  rotate_left
  ·show Act.put _ (some 15) _ = _
   simp only [Act.put, sA, sB, sC, i64_w, i32_w]
   rfl
  refine pure_ (i := 7) (N := some 8) (v := ?_) (a' := ?_) #[true, true, true, true, true, true, true, true] rfl rfl (any_of HT_.out (by kernel_rfl)) (fun _ _ _ h => h) (Or.inl ⟨by rfl, ?_⟩) ?_ ?_
  rotate_left
  ·intro w'
   go_simp
   with_reducible rfl
  rotate_left
  ·simp only [Act.put, sA, sB, sC, i64_w, i32_w]
   rfl
  refine done_ (done_of HT_.out (by kernel_rfl)) ?_
  have hnb13 := NB649_650.out
  have hnc13 := NB650_649.out
  have hcz14_0 : w12.cell? ⟨gb649, 0, none⟩ = some (.int .i64 a1_0) := bcl BK649 0
  have hcz14_1 : w12.cell? ⟨gb649, 1, none⟩ = some (.int .i64 a1_1) := bcl BK649 1
  have hcz14_2 : w12.cell? ⟨gb649, 2, none⟩ = some (.int .i64 a1_2) := bcl BK649 2
  have hfz14_0 := blk_frozen BK649.out 0
  have hfz14_1 := blk_frozen BK649.out 1
  have hfz14_2 := blk_frozen BK649.out 2
  have hcz15_0 : w12.cell? ⟨gb650, 0, none⟩ = some (.int .i64 a2_0) := bcl BK650 0
  have hcz15_1 : w12.cell? ⟨gb650, 1, none⟩ = some (.int .i64 a2_1) := bcl BK650 1
  have hcz15_2 : w12.cell? ⟨gb650, 2, none⟩ = some (.int .i64 a2_2) := bcl BK650 2
  have hcz15_3 : w12.cell? ⟨gb650, 3, none⟩ = some (.int .i64 a2_3) := bcl BK650 3
  have hfz15_0 := blk_frozen BK650.out 0
  have hfz15_1 := blk_frozen BK650.out 1
  have hfz15_2 := blk_frozen BK650.out 2
  have hfz15_3 := blk_frozen BK650.out 3
  try go_wp2_with (first | ((with_reducible refine gate_callee (f := 56) rfl ?_); refine goesL_ (some 21) rfl rfl Try.func56 (by kernel_rfl) rfl #[.agg #[.int .i64 a1_0, .int .i64 a1_1, .int .i64 a1_2], .agg #[.int .i64 a2_0, .int .i64 a2_1, .int .i64 a2_2, .int .i64 a2_3]] rfl (by (try simp only [List.map_toArray, List.map_cons, List.map_nil]); first | done | rfl | (simp only [List.length_drop, List.length_take]; rfl)) ?_; (with_reducible refine (spec_l11Centred.calls k a1_0 a1_1 a1_2 a2_0 a2_1 a2_2 a2_3 t653 _ A7.out).mono ?_); rintro e w16 ⟨rfl, hb⟩; refine ⟨_, rfl, ?_⟩; have n0_ := Aside0.mk (bbl BK649 hb); have n1_ := Aside0.mk (bbl BK650 hb); have n2_ := Aside0.mk (bst2 HB GE649 GE650 hb); clear BK649; clear BK650; clear HB; have BK649 := n0_; have BK650 := n1_; have HB := n2_; clear n0_ n1_ n2_; (try clear hb); (try clear hb2); (try clear hk); (try clear hi)))
  go_ret2
  exact ⟨by first | rfl | (simp [errW_none, errW_some] <;> rfl) | (simp [*, errW_none, errW_some] <;> rfl), bbw2 HB GE649 GE650⟩
 ·rw [if_neg c6] at H
  have c6b0 : (t652 == 0) = false := beq_eq_false_iff_ne.mpr c6
  have c6b1 : (t652 != 0) = true := bne_iff_ne.mpr c6
  simp only [Option.some.injEq, Prod.mk.injEq] at H
  obtain ⟨rfl, rfl⟩ := H
  go_enter Try.func27, Try.ntmps27
  try go_wp2_with (first | ((with_reducible refine gate_dst (N := 4) rfl ?_); refine box_event ?hg (N := 4) ?hd (cs := #[.int .i64 a1_0, .int .i64 a1_1, .int .i64 a1_2]) (t := 31) ?hr ?_; (case hd => rfl); (case hg => rfl); (case hr => first | (go_simp; done) | (go_simp; rfl)); intro gb649 hg w17 hbox hb; have n0_ := Aside0.mk (bst0 HB hb); have n1_ := Aside0.mk (hbox); have n2_ := ngw0 hg HB; have n3_ := n2_; clear HB; have HB := n0_; have BK649 := n1_; have GW649 := n2_; have GE649 := n3_; clear n0_ n1_ n2_ n3_; clear hb hbox hg) | ((with_reducible refine gate_dst (N := 5) rfl ?_); refine box_event ?hg (N := 5) ?hd (cs := #[.int .i64 a2_0, .int .i64 a2_1, .int .i64 a2_2, .int .i64 a2_3]) (t := 33) ?hr ?_; (case hd => rfl); (case hg => rfl); (case hr => first | (go_simp; done) | (go_simp; rfl)); intro gb650 hg w18 hbox hb; have n0_ := Aside0.mk (bbl BK649 hb); have n1_ := Aside0.mk (bst1 HB GE649 hb); have n2_ := Aside0.mk (hbox); have n3_ := ngw1 hg HB GE649; have n4_ := n3_; have n5_ := nlt hg BK649; have n6_ := nsy (nlt hg BK649); clear BK649; clear HB; have BK649 := n0_; have HB := n1_; have BK650 := n2_; have GW650 := n3_; have GE650 := n4_; have NB649_650 := n5_; have NB650_649 := n6_; clear n0_ n1_ n2_ n3_ n4_ n5_ n6_; clear hb hbox hg))
  have n0_ := Aside0.mk (blk_drew BK649.out)
  have n1_ := Aside0.mk (blk_drew BK650.out)
  have n2_ := Aside0.mk (below_drew1 HB.out)
  clear BK649
  clear BK650
  clear HB
  have BK649 := n0_
  have BK650 := n1_
  have HB := n2_
  clear n0_ n1_ n2_
  refine start_ (n := 8) (S := fun w' => w'.cell? ⟨gb649, 0, none⟩ = some (.int .i64 a1_0) ∧ w'.cell? ⟨gb649, 1, none⟩ = some (.int .i64 a1_1) ∧ w'.cell? ⟨gb649, 2, none⟩ = some (.int .i64 a1_2) ∧ w'.cell? ⟨gb650, 0, none⟩ = some (.int .i64 a2_0) ∧ w'.cell? ⟨gb650, 1, none⟩ = some (.int .i64 a2_1) ∧ w'.cell? ⟨gb650, 2, none⟩ = some (.int .i64 a2_2) ∧ w'.cell? ⟨gb650, 3, none⟩ = some (.int .i64 a2_3)) (ds := []) #[false, false, false, false, false, false, false, false] (by kernel_rfl) rfl rfl ⟨bcl BK649 0, bcl BK649 1, bcl BK649 2, bcl BK650 0, bcl BK650 1, bcl BK650 2, bcl BK650 3⟩ (fun hHeld => ?_); refine with_tabW spec_IsCentred.tab1 spec_IsCentred.bits1 (fun HT_ HW_ => ?_)
  generalize w18.drew = w19 at BK649 BK650 HB hHeld ⊢
  refine pure_ (i := 0) (N := some 9) (v := ?_) (a' := ?_) #[true, false, false, false, false, false, false, false] rfl rfl (any_of HT_.out (by kernel_rfl)) (fun _ _ _ h => h) (Or.inl ⟨by rfl, ?_⟩) ?_ ?_
  rotate_left
  ·intro w'
   go_simp
   with_reducible rfl
  rotate_left
  ·simp only [Act.put, sA, sB, sC, i64_w, i32_w]
   rfl
  refine pure_ (i := 2) (N := some 11) (v := ?_) (a' := ?_) #[true, false, true, false, false, false, false, false] rfl rfl (any_of HT_.out (by kernel_rfl)) (fun _ _ _ h => h) (Or.inl ⟨by rfl, ?_⟩) ?_ ?_
  rotate_left
  ·intro w'
   go_simp
   with_reducible rfl
  rotate_left
  ·simp only [Act.put, sA, sB, sC, i64_w, i32_w]
   rfl
  refine take_ (i := 1) (N := some 10) (v := ?_) (a' := ?_) #[true, true, true, false, false, false, false, false] rfl rfl (take_ofW HT_.out HW_.out (by kernel_rfl)) (fun _ _ _ h => h) (Or.inl ⟨by rfl, ?_⟩) hHeld ?_ ?_
  rotate_left
  ·rintro w' ⟨s0, s1, s2, s3, s4, s5, s6⟩
   go_simp
   with_reducible rfl
  rotate_left
  ·simp only [Act.put, sA, sB, sC, i64_w, i32_w]
   rfl
  refine take_ (i := 3) (N := some 12) (v := ?_) (a' := ?_) #[true, true, true, true, false, false, false, false] rfl rfl (take_ofW HT_.out HW_.out (by kernel_rfl)) (fun _ _ _ h => h) (Or.inl ⟨by rfl, ?_⟩) hHeld ?_ ?_
  rotate_left
  ·rintro w' ⟨s0, s1, s2, s3, s4, s5, s6⟩
   go_simp
   with_reducible rfl
  rotate_left
  ·simp only [Act.put, sA, sB, sC, i64_w, i32_w]
   rfl
  refine take_ (i := 4) (N := some 13) (v := ?_) (a' := ?_) #[true, true, true, true, true, false, false, false] rfl rfl (take_ofW HT_.out HW_.out (by kernel_rfl)) (fun _ _ _ h => h) (Or.inl ⟨by rfl, ?_⟩) hHeld ?_ ?_
  rotate_left
  ·rintro w' ⟨s0, s1, s2, s3, s4, s5, s6⟩
   go_simp
   with_reducible rfl
  rotate_left
  ·simp only [Act.put, sA, sB, sC, i64_w, i32_w]
   rfl
  refine one_ (i := 5) (N := some 14) #[true, true, true, true, true, true, false, false] rfl rfl (one_of HT_.out (by kernel_rfl)) (by decide) (fun K hK => ?_)
  refine goes_ Try.func51 (by kernel_rfl) rfl #[.int .i64 a0, .agg #[.int .i64 a1_0, .int .i64 a1_1, .int .i64 a1_2], .agg #[.int .i64 a2_0, .int .i64 a2_1, .int .i64 a2_2, .int .i64 a2_3]] (by rfl) rfl rfl (by (try simp only [List.map_toArray, List.map_cons, List.map_nil]); first | done | rfl | (simp only [List.length_drop, List.length_take]; rfl)) ?_
  with_reducible refine (spec_l11Mirror.calls k a0 a1_0 a1_1 a1_2 a2_0 a2_1 a2_2 a2_3 t651 _ A4.out).mono ?_
  rintro e w20 ⟨rfl, hb⟩
  refine ⟨_, rfl, ?_⟩
  have n0_ := Aside0.mk (bbl BK649 hb)
  have n1_ := Aside0.mk (bbl BK650 hb)
  have n2_ := Aside0.mk (bst2 HB GE649 GE650 hb)
  clear BK649
  clear BK650
  clear HB
  have BK649 := n0_
  have BK650 := n1_
  have HB := n2_
  clear n0_ n1_ n2_
  (try clear hb)
  (try clear hb2)
  (try clear hk)
  (try clear hi)
  refine hK.out _ _ ⟨bcl BK649 0, bcl BK649 1, bcl BK649 2, bcl BK650 0, bcl BK650 1, bcl BK650 2, bcl BK650 3⟩ (fun hHeld => ?_)
  clear hK K
  refine norm_ (a' := ?_) ?_ ?_
  rotate_left
  ·show Act.put _ (some 14) _ = _
   simp only [Act.put, sA, sB, sC, i64_w, i32_w]
   rfl
  refine one_ (i := 6) (N := some 15) #[true, true, true, true, true, true, true, false] rfl rfl (one_of HT_.out (by kernel_rfl)) (by decide) (fun K hK => ?_)
  refine goes_ Try.func45 (by kernel_rfl) rfl #[.int .i64 a0, .agg #[.int .i64 a1_0, .int .i64 a1_1, .int .i64 a1_2], .bool t651] (by rfl) rfl rfl (by (try simp only [List.map_toArray, List.map_cons, List.map_nil]); first | done | rfl | (simp only [List.length_drop, List.length_take]; rfl)) ?_
  with_reducible refine (spec_l06Code.calls a0 a1_0 a1_1 a1_2 t651 t652 _ A5.out).mono ?_
  rintro e w21 ⟨rfl, hb⟩
  refine ⟨_, rfl, ?_⟩
  have n0_ := Aside0.mk (bbl BK649 hb)
  have n1_ := Aside0.mk (bbl BK650 hb)
  have n2_ := Aside0.mk (bst2 HB GE649 GE650 hb)
  clear BK649
  clear BK650
  clear HB
  have BK649 := n0_
  have BK650 := n1_
  have HB := n2_
  clear n0_ n1_ n2_
  (try clear hb)
  (try clear hb2)
  (try clear hk)
  (try clear hi)
  refine hK.out _ _ ⟨bcl BK649 0, bcl BK649 1, bcl BK649 2, bcl BK650 0, bcl BK650 1, bcl BK650 2, bcl BK650 3⟩ (fun hHeld => ?_)
  clear hK K
  refine norm_ (a' := ?_) ?_ ?_
  rotate_left
  ·show Act.put _ (some 15) _ = _
   simp only [Act.put, sA, sB, sC, i64_w, i32_w]
   rfl
  refine pure_ (i := 7) (N := some 8) (v := ?_) (a' := ?_) #[true, true, true, true, true, true, true, true] rfl rfl (any_of HT_.out (by kernel_rfl)) (fun _ _ _ h => h) (Or.inl ⟨by rfl, ?_⟩) ?_ ?_
  rotate_left
  ·intro w'
   go_simp
   with_reducible rfl
  rotate_left
  ·simp only [Act.put, sA, sB, sC, i64_w, i32_w]
   rfl
  refine done_ (done_of HT_.out (by kernel_rfl)) ?_
  try go_wp2
  go_ret2
  exact ⟨by first | rfl | (simp [errW_none, errW_some] <;> rfl) | (simp [*, errW_none, errW_some] <;> rfl), bbw2 HB GE649 GE650⟩

/-! ### impl_det: function 97 -/
def impl_det.f (a0_0 : Int) (a0_1 : Int) (a1_0 : Int) (a1_1 : Int) : Option (Int) := some (wrap64 ((wrap64 (a0_0 * a1_1)) - (wrap64 (a0_1 * a1_0))))
set_option maxHeartbeats 8000000 in
set_option maxRecDepth 100000 in
theorem impl_det.calls (a0_0 : Int) (a0_1 : Int) (a1_0 : Int) (a1_1 : Int) (r : Int) (w : World) (h : impl_det.f a0_0 a0_1 a1_0 a1_1 = some r) :
  Calls Try.prog 97 #[.agg #[.int .i64 a0_0, .int .i64 a0_1], .agg #[.int .i64 a1_0, .int .i64 a1_1]] w fun e w' => e = .returned (.int .i64 r) ∧ Below w.heap.size w w' := by
 have hu34 := Try.underlying34
 have HB := Aside0.mk (Below.refl w.heap.size w)
 have H : (some (wrap64 ((wrap64 (a0_0 * a1_1)) - (wrap64 (a0_1 * a1_0))))) = some r := h
 clear h
 obtain rfl := Option.some.inj H
 go_enter Try.func97, Try.ntmps97
 go_wp2_with (first | ((with_reducible refine gate_dst (N := 2) rfl ?_); refine box_event ?hg (N := 2) ?hd (cs := #[.int .i64 a0_0, .int .i64 a0_1]) (t := 34) ?hr ?_; (case hd => rfl); (case hg => rfl); (case hr => first | (go_simp; done) | (go_simp; rfl)); intro gb654 hg w3 hbox hb; have n0_ := Aside0.mk (bst0 HB hb); have n1_ := Aside0.mk (hbox); have n2_ := ngw0 hg HB; have n3_ := n2_; clear HB; have HB := n0_; have BK654 := n1_; have GW654 := n2_; have GE654 := n3_; clear n0_ n1_ n2_ n3_; clear hb hbox hg) | ((with_reducible refine gate_dst (N := 3) rfl ?_); refine box_event ?hg (N := 3) ?hd (cs := #[.int .i64 a1_0, .int .i64 a1_1]) (t := 34) ?hr ?_; (case hd => rfl); (case hg => rfl); (case hr => first | (go_simp; done) | (go_simp; rfl)); intro gb655 hg w4 hbox hb; have n0_ := Aside0.mk (bbl BK654 hb); have n1_ := Aside0.mk (bst1 HB GE654 hb); have n2_ := Aside0.mk (hbox); have n3_ := ngw1 hg HB GE654; have n4_ := n3_; have n5_ := nlt hg BK654; have n6_ := nsy (nlt hg BK654); clear BK654; clear HB; have BK654 := n0_; have HB := n1_; have BK655 := n2_; have GW655 := n3_; have GE655 := n4_; have NB654_655 := n5_; have NB655_654 := n6_; clear n0_ n1_ n2_ n3_ n4_ n5_ n6_; clear hb hbox hg; have hnb5 := NB654_655.out; have hnc5 := NB655_654.out; have hcz6_0 : w4.cell? ⟨gb654, 0, none⟩ = some (.int .i64 a0_0) := bcl BK654 0; have hcz6_1 : w4.cell? ⟨gb654, 1, none⟩ = some (.int .i64 a0_1) := bcl BK654 1; have hfz6_0 := blk_frozen BK654.out 0; have hfz6_1 := blk_frozen BK654.out 1; have hcz7_0 : w4.cell? ⟨gb655, 0, none⟩ = some (.int .i64 a1_0) := bcl BK655 0; have hcz7_1 : w4.cell? ⟨gb655, 1, none⟩ = some (.int .i64 a1_1) := bcl BK655 1; have hfz7_0 := blk_frozen BK655.out 0; have hfz7_1 := blk_frozen BK655.out 1))
 go_ret
 exact ⟨by first | rfl | (simp [errW_none, errW_some] <;> rfl) | (simp [*, errW_none, errW_some] <;> rfl), bbw2 HB GE654 GE655⟩

/-! ### impl_Mat_negative: function 98 -/
def impl_Mat_negative.f (a0_0 : Int) (a0_1 : Int) (a0_2 : Int) (a0_3 : Int) : Option (Int × Int × Int × Int) := some (wrap64 (-a0_0), wrap64 (-a0_1), wrap64 (-a0_2), wrap64 (-a0_3))
set_option maxHeartbeats 8000000 in
set_option maxRecDepth 100000 in
theorem impl_Mat_negative.calls (a0_0 : Int) (a0_1 : Int) (a0_2 : Int) (a0_3 : Int) (r1 : Int) (r2 : Int) (r3 : Int) (r4 : Int) (w : World) (h : impl_Mat_negative.f a0_0 a0_1 a0_2 a0_3 = some (r1, r2, r3, r4)) :
  Calls Try.prog 98 #[.agg #[.int .i64 a0_0, .int .i64 a0_1, .int .i64 a0_2, .int .i64 a0_3]] w fun e w' => e = .returned (.agg #[.int .i64 r1, .int .i64 r2, .int .i64 r3, .int .i64 r4]) ∧ Below w.heap.size w w' := by
 have hu33 := Try.underlying33
 have HB := Aside0.mk (Below.refl w.heap.size w)
 have H : (some (wrap64 (-a0_0), wrap64 (-a0_1), wrap64 (-a0_2), wrap64 (-a0_3))) = some (r1, r2, r3, r4) := h
 clear h
 simp only [Option.some.injEq, Prod.mk.injEq] at H
 obtain ⟨rfl, rfl, rfl, rfl⟩ := H
 go_enter Try.func98, Try.ntmps98
 go_wp2_with (first | ((with_reducible refine gate_dst (N := 1) rfl ?_); refine box_event ?hg (N := 1) ?hd (cs := #[.int .i64 a0_0, .int .i64 a0_1, .int .i64 a0_2, .int .i64 a0_3]) (t := 33) ?hr ?_; (case hd => rfl); (case hg => rfl); (case hr => first | (go_simp; done) | (go_simp; rfl)); intro gb656 hg w2 hbox hb; have n0_ := Aside0.mk (bst0 HB hb); have n1_ := Aside0.mk (hbox); have n2_ := ngw0 hg HB; have n3_ := n2_; clear HB; have HB := n0_; have BK656 := n1_; have GW656 := n2_; have GE656 := n3_; clear n0_ n1_ n2_ n3_; clear hb hbox hg) | ((with_reducible refine gate_dst (N := 2) rfl ?_); refine box_event ?hg (N := 2) ?hd (cs := #[.int .i64 0, .int .i64 0, .int .i64 0, .int .i64 0]) (t := 33) ?hr ?_; (case hd => rfl); (case hg => rfl); (case hr => first | (go_simp; done) | (go_simp; rfl)); intro gb657 hg w3 hbox hb; have n0_ := Aside0.mk (bbl BK656 hb); have n1_ := Aside0.mk (bst1 HB GE656 hb); have n2_ := Aside0.mk (hbox); have n3_ := ngw1 hg HB GE656; have n4_ := n3_; have n5_ := nlt hg BK656; have n6_ := nsy (nlt hg BK656); clear BK656; clear HB; have BK656 := n0_; have HB := n1_; have BK657 := n2_; have GW657 := n3_; have GE657 := n4_; have NB656_657 := n5_; have NB657_656 := n6_; clear n0_ n1_ n2_ n3_ n4_ n5_ n6_; clear hb hbox hg; have hnb4 := NB656_657.out; have hnc4 := NB657_656.out; have hcz5_0 : w3.cell? ⟨gb656, 0, none⟩ = some (.int .i64 a0_0) := bcl BK656 0; have hcz5_1 : w3.cell? ⟨gb656, 1, none⟩ = some (.int .i64 a0_1) := bcl BK656 1; have hcz5_2 : w3.cell? ⟨gb656, 2, none⟩ = some (.int .i64 a0_2) := bcl BK656 2; have hcz5_3 : w3.cell? ⟨gb656, 3, none⟩ = some (.int .i64 a0_3) := bcl BK656 3; have hfz5_0 := blk_frozen BK656.out 0; have hfz5_1 := blk_frozen BK656.out 1; have hfz5_2 := blk_frozen BK656.out 2; have hfz5_3 := blk_frozen BK656.out 3; have hcz6_0 : w3.cell? ⟨gb657, 0, none⟩ = some (.int .i64 0) := bcl BK657 0; have hcz6_1 : w3.cell? ⟨gb657, 1, none⟩ = some (.int .i64 0) := bcl BK657 1; have hcz6_2 : w3.cell? ⟨gb657, 2, none⟩ = some (.int .i64 0) := bcl BK657 2; have hcz6_3 : w3.cell? ⟨gb657, 3, none⟩ = some (.int .i64 0) := bcl BK657 3; have hfz6_0 := blk_frozen BK657.out 0; have hfz6_1 := blk_frozen BK657.out 1; have hfz6_2 := blk_frozen BK657.out 2; have hfz6_3 := blk_frozen BK657.out 3))
 refine bodyPost_ret (results_cell_row rfl _ _ gb657 33 #[.int .i64 (wrap64 (-a0_0)), .int .i64 (wrap64 (-a0_1)), .int .i64 (wrap64 (-a0_2)), .int .i64 (wrap64 (-a0_3))] (0, 0) _ rfl (by (with_reducible repeat (first | refine blk_drewN ?_ _ | refine blk_drew ?_ | refine blk_alloc ?_ _)); refine blk_put (cs := #[.int .i64 (wrap64 (-a0_0)), .int .i64 (wrap64 (-a0_1)), .int .i64 (wrap64 (-a0_2)), .int .i64 0]) ?_ 3 _ rfl; (with_reducible repeat (first | refine blk_drewN ?_ _ | refine blk_drew ?_ | refine blk_alloc ?_ _)); refine blk_put (cs := #[.int .i64 (wrap64 (-a0_0)), .int .i64 (wrap64 (-a0_1)), .int .i64 0, .int .i64 0]) ?_ 2 _ rfl; (with_reducible repeat (first | refine blk_drewN ?_ _ | refine blk_drew ?_ | refine blk_alloc ?_ _)); refine blk_put (cs := #[.int .i64 (wrap64 (-a0_0)), .int .i64 0, .int .i64 0, .int .i64 0]) ?_ 1 _ rfl; (with_reducible repeat (first | refine blk_drewN ?_ _ | refine blk_drew ?_ | refine blk_alloc ?_ _)); refine blk_put (cs := #[.int .i64 0, .int .i64 0, .int .i64 0, .int .i64 0]) ?_ 0 _ rfl; (with_reducible repeat (first | refine blk_drewN ?_ _ | refine blk_drew ?_ | refine blk_alloc ?_ _)); exact BK657.out) Try.underlying33 rfl (by kernel_rfl)) rfl ?_
 exact ⟨by first | rfl | (simp [errW_none, errW_some] <;> rfl) | (simp [*, errW_none, errW_some] <;> rfl), bbw2 HB GE656 GE657⟩

/-! ### impl_Lattice_isCentred: function 57 -/
def impl_Lattice_isCentred.f (k : Nat) (a0_0 : Int) (a0_1 : Int) (a0_2 : Int) (a1_0 : Int) (a1_1 : Int) (a1_2 : Int) (a1_3 : Int) : Option (Bool) := (impl_Mat_axis.f k a1_0 a1_1 a1_2 a1_3).bind fun bt660 => ((impl_Lattice_multipleIn.f k a0_0 a0_1 a0_2 bt660.1 bt660.2).bind fun bt662 => ((impl_Mat_negative.f a1_0 a1_1 a1_2 a1_3).bind fun bt664 => ((impl_Mat_axis.f k bt664.1 bt664.2.1 bt664.2.2.1 bt664.2.2.2).bind fun bt668 => ((impl_Lattice_multipleIn.f k a0_0 a0_1 a0_2 bt668.1 bt668.2).bind fun bt670 => ((impl_det.f bt662.1 bt662.2 bt670.1 bt670.2).bind fun t672 => ((impl_Lattice_index.f a0_0 a0_1 a0_2).bind fun t673 => (some ((mx t672 (wrap64 (-t672))) != t673))))))))
def impl_Lattice_isCentred.T1 : Bool × List (List Nat × List Nat) := (true, [([], []), ([], []), ([1], [1]), ([0, 2, 2], [0, 2]), ([], []), ([], []), ([5, 3], [5]), ([6, 6], [6]), ([4, 7, 7], [4, 7]), ([3, 8, 8], [3, 8]), ([9, 9, 0, 1, 2, 3, 4, 5, 6, 7, 8, 9], [9])])
def impl_Lattice_isCentred.B1 : List Nat := [0, 0, 2, 7, 0, 0, 47, 111, 255, 511, 1023]
theorem impl_Lattice_isCentred.tab1 : rtab .any (opsOf Try.f57 1) = impl_Lattice_isCentred.T1 := by kernel_rfl
theorem impl_Lattice_isCentred.bits1 : waitsOk impl_Lattice_isCentred.T1.2 impl_Lattice_isCentred.B1 = true := by kernel_rfl
set_option maxHeartbeats 8000000 in
set_option maxRecDepth 100000 in
theorem impl_Lattice_isCentred.calls (k : Nat) (a0_0 : Int) (a0_1 : Int) (a0_2 : Int) (a1_0 : Int) (a1_1 : Int) (a1_2 : Int) (a1_3 : Int) (r : Bool) (w : World) (h : impl_Lattice_isCentred.f k a0_0 a0_1 a0_2 a1_0 a1_1 a1_2 a1_3 = some r) :
  Calls Try.prog 57 #[.agg #[.int .i64 a0_0, .int .i64 a0_1, .int .i64 a0_2], .agg #[.int .i64 a1_0, .int .i64 a1_1, .int .i64 a1_2, .int .i64 a1_3]] w fun e w' => e = .returned (.bool r) ∧ Below w.heap.size w w' := by
 have hu31 := Try.underlying31
 have hu33 := Try.underlying33
 have HB := Aside0.mk (Below.refl w.heap.size w)
 have H : ((impl_Mat_axis.f k a1_0 a1_1 a1_2 a1_3).bind fun bt660 => ((impl_Lattice_multipleIn.f k a0_0 a0_1 a0_2 bt660.1 bt660.2).bind fun bt662 => ((impl_Mat_negative.f a1_0 a1_1 a1_2 a1_3).bind fun bt664 => ((impl_Mat_axis.f k bt664.1 bt664.2.1 bt664.2.2.1 bt664.2.2.2).bind fun bt668 => ((impl_Lattice_multipleIn.f k a0_0 a0_1 a0_2 bt668.1 bt668.2).bind fun bt670 => ((impl_det.f bt662.1 bt662.2 bt670.1 bt670.2).bind fun t672 => ((impl_Lattice_index.f a0_0 a0_1 a0_2).bind fun t673 => (some ((mx t672 (wrap64 (-t672))) != t673))))))))) = some r := h
 clear h
 replace H := Option.bind_eq_some_iff.mp H
 obtain ⟨⟨t660, t661⟩, A30, H⟩ := H
 replace H : ((impl_Lattice_multipleIn.f k a0_0 a0_1 a0_2 t660 t661).bind fun bt662 => ((impl_Mat_negative.f a1_0 a1_1 a1_2 a1_3).bind fun bt664 => ((impl_Mat_axis.f k bt664.1 bt664.2.1 bt664.2.2.1 bt664.2.2.2).bind fun bt668 => ((impl_Lattice_multipleIn.f k a0_0 a0_1 a0_2 bt668.1 bt668.2).bind fun bt670 => ((impl_det.f bt662.1 bt662.2 bt670.1 bt670.2).bind fun t672 => ((impl_Lattice_index.f a0_0 a0_1 a0_2).bind fun t673 => (some ((mx t672 (wrap64 (-t672))) != t673)))))))) = some r := H
 have A3 := Aside0.mk A30
 clear A30
 replace H := Option.bind_eq_some_iff.mp H
 obtain ⟨⟨t662, t663⟩, A40, H⟩ := H
 replace H : ((impl_Mat_negative.f a1_0 a1_1 a1_2 a1_3).bind fun bt664 => ((impl_Mat_axis.f k bt664.1 bt664.2.1 bt664.2.2.1 bt664.2.2.2).bind fun bt668 => ((impl_Lattice_multipleIn.f k a0_0 a0_1 a0_2 bt668.1 bt668.2).bind fun bt670 => ((impl_det.f t662 t663 bt670.1 bt670.2).bind fun t672 => ((impl_Lattice_index.f a0_0 a0_1 a0_2).bind fun t673 => (some ((mx t672 (wrap64 (-t672))) != t673))))))) = some r := H
 have A4 := Aside0.mk A40
 clear A40
 replace H := Option.bind_eq_some_iff.mp H
 obtain ⟨⟨t664, t665, t666, t667⟩, A50, H⟩ := H
 replace H : ((impl_Mat_axis.f k t664 t665 t666 t667).bind fun bt668 => ((impl_Lattice_multipleIn.f k a0_0 a0_1 a0_2 bt668.1 bt668.2).bind fun bt670 => ((impl_det.f t662 t663 bt670.1 bt670.2).bind fun t672 => ((impl_Lattice_index.f a0_0 a0_1 a0_2).bind fun t673 => (some ((mx t672 (wrap64 (-t672))) != t673)))))) = some r := H
 have A5 := Aside0.mk A50
 clear A50
 replace H := Option.bind_eq_some_iff.mp H
 obtain ⟨⟨t668, t669⟩, A60, H⟩ := H
 replace H : ((impl_Lattice_multipleIn.f k a0_0 a0_1 a0_2 t668 t669).bind fun bt670 => ((impl_det.f t662 t663 bt670.1 bt670.2).bind fun t672 => ((impl_Lattice_index.f a0_0 a0_1 a0_2).bind fun t673 => (some ((mx t672 (wrap64 (-t672))) != t673))))) = some r := H
 have A6 := Aside0.mk A60
 clear A60
 replace H := Option.bind_eq_some_iff.mp H
 obtain ⟨⟨t670, t671⟩, A70, H⟩ := H
 replace H : ((impl_det.f t662 t663 t670 t671).bind fun t672 => ((impl_Lattice_index.f a0_0 a0_1 a0_2).bind fun t673 => (some ((mx t672 (wrap64 (-t672))) != t673)))) = some r := H
 have A7 := Aside0.mk A70
 clear A70
 replace H := Option.bind_eq_some_iff.mp H
 obtain ⟨t672, A80, H⟩ := H
 replace H : ((impl_Lattice_index.f a0_0 a0_1 a0_2).bind fun t673 => (some ((mx t672 (wrap64 (-t672))) != t673))) = some r := H
 have A8 := Aside0.mk A80
 clear A80
 obtain ⟨ji9, hji9⟩ : ∃ j_ : Int, (mx t672 (wrap64 (-t672))) = j_ := ⟨_, rfl⟩
 replace H : ((impl_Lattice_index.f a0_0 a0_1 a0_2).bind fun t673 => (some ((ji9) != t673))) = some r := by first | (rw [hji9] at H; first | done | exact H) | (simp only [hji9] at H ⊢; exact H)
 (try rw [hji9] at A3)
 (try rw [hji9] at A4)
 (try rw [hji9] at A5)
 (try rw [hji9] at A6)
 (try rw [hji9] at A7)
 (try rw [hji9] at A8)
 have hji9_ : (if t672 < (wrap64 (-t672)) then (wrap64 (-t672)) else t672) = ji9 := hji9
 replace H := Option.bind_eq_some_iff.mp H
 obtain ⟨t673, A100, H⟩ := H
 replace H : (some ((ji9) != t673)) = some r := H
 have A10 := Aside0.mk A100
 clear A100
 obtain rfl := Option.some.inj H
 go_enter Try.func57, Try.ntmps57
 try go_wp2_with (first | ((with_reducible refine gate_dst (N := 2) rfl ?_); refine box_event ?hg (N := 2) ?hd (cs := #[.int .i64 a0_0, .int .i64 a0_1, .int .i64 a0_2]) (t := 31) ?hr ?_; (case hd => rfl); (case hg => rfl); (case hr => first | (go_simp; done) | (go_simp; rfl)); intro gb658 hg w11 hbox hb; have n0_ := Aside0.mk (bst0 HB hb); have n1_ := Aside0.mk (hbox); have n2_ := ngw0 hg HB; have n3_ := n2_; clear HB; have HB := n0_; have BK658 := n1_; have GW658 := n2_; have GE658 := n3_; clear n0_ n1_ n2_ n3_; clear hb hbox hg) | ((with_reducible refine gate_dst (N := 3) rfl ?_); refine box_event ?hg (N := 3) ?hd (cs := #[.int .i64 a1_0, .int .i64 a1_1, .int .i64 a1_2, .int .i64 a1_3]) (t := 33) ?hr ?_; (case hd => rfl); (case hg => rfl); (case hr => first | (go_simp; done) | (go_simp; rfl)); intro gb659 hg w12 hbox hb; have n0_ := Aside0.mk (bbl BK658 hb); have n1_ := Aside0.mk (bst1 HB GE658 hb); have n2_ := Aside0.mk (hbox); have n3_ := ngw1 hg HB GE658; have n4_ := n3_; have n5_ := nlt hg BK658; have n6_ := nsy (nlt hg BK658); clear BK658; clear HB; have BK658 := n0_; have HB := n1_; have BK659 := n2_; have GW659 := n3_; have GE659 := n4_; have NB658_659 := n5_; have NB659_658 := n6_; clear n0_ n1_ n2_ n3_ n4_ n5_ n6_; clear hb hbox hg))
 have n0_ := Aside0.mk (blk_drew BK658.out)
 have n1_ := Aside0.mk (blk_drew BK659.out)
 have n2_ := Aside0.mk (below_drew1 HB.out)
 clear BK658
 clear BK659
 clear HB
 have BK658 := n0_
 have BK659 := n1_
 have HB := n2_
 clear n0_ n1_ n2_
 refine start_ (n := 11) (S := fun w' => w'.cell? ⟨gb658, 0, none⟩ = some (.int .i64 a0_0) ∧ w'.cell? ⟨gb658, 1, none⟩ = some (.int .i64 a0_1) ∧ w'.cell? ⟨gb658, 2, none⟩ = some (.int .i64 a0_2) ∧ w'.cell? ⟨gb659, 0, none⟩ = some (.int .i64 a1_0) ∧ w'.cell? ⟨gb659, 1, none⟩ = some (.int .i64 a1_1) ∧ w'.cell? ⟨gb659, 2, none⟩ = some (.int .i64 a1_2) ∧ w'.cell? ⟨gb659, 3, none⟩ = some (.int .i64 a1_3)) (ds := []) #[false, false, false, false, false, false, false, false, false, false, false] (by kernel_rfl) rfl rfl ⟨bcl BK658 0, bcl BK658 1, bcl BK658 2, bcl BK659 0, bcl BK659 1, bcl BK659 2, bcl BK659 3⟩ (fun hHeld => ?_); refine with_tabW impl_Lattice_isCentred.tab1 impl_Lattice_isCentred.bits1 (fun HT_ HW_ => ?_)
 generalize w12.drew = w13 at BK658 BK659 HB hHeld ⊢
 refine take_ (i := 0) (N := some 6) (v := ?_) (a' := ?_) #[true, false, false, false, false, false, false, false, false, false, false] rfl rfl (take_ofW HT_.out HW_.out (by kernel_rfl)) (fun _ _ _ h => h) (Or.inl ⟨by rfl, ?_⟩) hHeld ?_ ?_
 rotate_left
 ·rintro w' ⟨s0, s1, s2, s3, s4, s5, s6⟩
  go_simp
  with_reducible rfl
 rotate_left
 ·simp only [Act.put, sA, sB, sC, i64_w, i32_w]
  rfl
 refine take_ (i := 1) (N := some 7) (v := ?_) (a' := ?_) #[true, true, false, false, false, false, false, false, false, false, false] rfl rfl (take_ofW HT_.out HW_.out (by kernel_rfl)) (fun _ _ _ h => h) (Or.inl ⟨by rfl, ?_⟩) hHeld ?_ ?_
 rotate_left
 ·rintro w' ⟨s0, s1, s2, s3, s4, s5, s6⟩
  go_simp
  with_reducible rfl
 rotate_left
 ·simp only [Act.put, sA, sB, sC, i64_w, i32_w]
  rfl
 refine take_ (i := 4) (N := some 10) (v := ?_) (a' := ?_) #[true, true, false, false, true, false, false, false, false, false, false] rfl rfl (take_ofW HT_.out HW_.out (by kernel_rfl)) (fun _ _ _ h => h) (Or.inl ⟨by rfl, ?_⟩) hHeld ?_ ?_
 rotate_left
 ·rintro w' ⟨s0, s1, s2, s3, s4, s5, s6⟩
  go_simp
  with_reducible rfl
 rotate_left
 ·simp only [Act.put, sA, sB, sC, i64_w, i32_w]
  rfl
 refine take_ (i := 5) (N := some 11) (v := ?_) (a' := ?_) #[true, true, false, false, true, true, false, false, false, false, false] rfl rfl (take_ofW HT_.out HW_.out (by kernel_rfl)) (fun _ _ _ h => h) (Or.inl ⟨by rfl, ?_⟩) hHeld ?_ ?_
 rotate_left
 ·rintro w' ⟨s0, s1, s2, s3, s4, s5, s6⟩
  go_simp
  with_reducible rfl
 rotate_left
 ·simp only [Act.put, sA, sB, sC, i64_w, i32_w]
  rfl
 refine one_ (i := 2) (N := some 8) #[true, true, true, false, true, true, false, false, false, false, false] rfl rfl (one_of HT_.out (by kernel_rfl)) (by decide) (fun K hK => ?_)
 refine goes_ Try.func55 (by kernel_rfl) rfl #[.agg #[.int .i64 a1_0, .int .i64 a1_1, .int .i64 a1_2, .int .i64 a1_3]] (by rfl) rfl rfl (by (try simp only [List.map_toArray, List.map_cons, List.map_nil]); first | done | rfl | (simp only [List.length_drop, List.length_take]; rfl)) ?_
 with_reducible refine (impl_Mat_axis.calls k a1_0 a1_1 a1_2 a1_3 t660 t661 _ A3.out).mono ?_
 rintro e w14 ⟨rfl, hb⟩
 refine ⟨_, rfl, ?_⟩
 have n0_ := Aside0.mk (bbl BK658 hb)
 have n1_ := Aside0.mk (bbl BK659 hb)
 have n2_ := Aside0.mk (bst2 HB GE658 GE659 hb)
 clear BK658
 clear BK659
 clear HB
 have BK658 := n0_
 have BK659 := n1_
 have HB := n2_
 clear n0_ n1_ n2_
 (try clear hb)
 (try clear hb2)
 (try clear hk)
 (try clear hi)
 refine hK.out _ _ ⟨bcl BK658 0, bcl BK658 1, bcl BK658 2, bcl BK659 0, bcl BK659 1, bcl BK659 2, bcl BK659 3⟩ (fun hHeld => ?_)
 clear hK K
 refine norm_ (a' := ?_) ?_ ?_
 rotate_left
 ·show Act.put _ (some 8) _ = _
  simp only [Act.put, sA, sB, sC, i64_w, i32_w]
  rfl
 refine one_ (i := 3) (N := some 9) #[true, true, true, true, true, true, false, false, false, false, false] rfl rfl (one_of HT_.out (by kernel_rfl)) (by decide) (fun K hK => ?_)
 refine goes_ Try.func54 (by kernel_rfl) rfl #[.agg #[.int .i64 a0_0, .int .i64 a0_1, .int .i64 a0_2], .agg #[.int .i64 t660, .int .i64 t661]] (by rfl) rfl rfl (by (try simp only [List.map_toArray, List.map_cons, List.map_nil]); first | done | rfl | (simp only [List.length_drop, List.length_take]; rfl)) ?_
 with_reducible refine (impl_Lattice_multipleIn.calls k a0_0 a0_1 a0_2 t660 t661 t662 t663 _ A4.out).mono ?_
 rintro e w15 ⟨rfl, hb⟩
 refine ⟨_, rfl, ?_⟩
 have n0_ := Aside0.mk (bbl BK658 hb)
 have n1_ := Aside0.mk (bbl BK659 hb)
 have n2_ := Aside0.mk (bst2 HB GE658 GE659 hb)
 clear BK658
 clear BK659
 clear HB
 have BK658 := n0_
 have BK659 := n1_
 have HB := n2_
 clear n0_ n1_ n2_
 (try clear hb)
 (try clear hb2)
 (try clear hk)
 (try clear hi)
 refine hK.out _ _ ⟨bcl BK658 0, bcl BK658 1, bcl BK658 2, bcl BK659 0, bcl BK659 1, bcl BK659 2, bcl BK659 3⟩ (fun hHeld => ?_)
 clear hK K
 refine norm_ (a' := ?_) ?_ ?_
 rotate_left
 ·show Act.put _ (some 9) _ = _
  simp only [Act.put, sA, sB, sC, i64_w, i32_w]
  rfl
 refine one_ (i := 6) (N := some 12) #[true, true, true, true, true, true, true, false, false, false, false] rfl rfl (one_of HT_.out (by kernel_rfl)) (by decide) (fun K hK => ?_)
 refine goes_ Try.func98 (by kernel_rfl) rfl #[.agg #[.int .i64 a1_0, .int .i64 a1_1, .int .i64 a1_2, .int .i64 a1_3]] (by rfl) rfl rfl (by (try simp only [List.map_toArray, List.map_cons, List.map_nil]); first | done | rfl | (simp only [List.length_drop, List.length_take]; rfl)) ?_
 with_reducible refine (impl_Mat_negative.calls a1_0 a1_1 a1_2 a1_3 t664 t665 t666 t667 _ A5.out).mono ?_
 rintro e w16 ⟨rfl, hb⟩
 refine ⟨_, rfl, ?_⟩
 have n0_ := Aside0.mk (bbl BK658 hb)
 have n1_ := Aside0.mk (bbl BK659 hb)
 have n2_ := Aside0.mk (bst2 HB GE658 GE659 hb)
 clear BK658
 clear BK659
 clear HB
 have BK658 := n0_
 have BK659 := n1_
 have HB := n2_
 clear n0_ n1_ n2_
 (try clear hb)
 (try clear hb2)
 (try clear hk)
 (try clear hi)
 refine hK.out _ _ ⟨bcl BK658 0, bcl BK658 1, bcl BK658 2, bcl BK659 0, bcl BK659 1, bcl BK659 2, bcl BK659 3⟩ (fun hHeld => ?_)
 clear hK K
 refine norm_ (a' := ?_) ?_ ?_
 rotate_left
 ·show Act.put _ (some 12) _ = _
  simp only [Act.put, sA, sB, sC, i64_w, i32_w]
  rfl
 refine one_ (i := 7) (N := some 13) #[true, true, true, true, true, true, true, true, false, false, false] rfl rfl (one_of HT_.out (by kernel_rfl)) (by decide) (fun K hK => ?_)
 refine goes_ Try.func55 (by kernel_rfl) rfl #[.agg #[.int .i64 t664, .int .i64 t665, .int .i64 t666, .int .i64 t667]] (by rfl) rfl rfl (by (try simp only [List.map_toArray, List.map_cons, List.map_nil]); first | done | rfl | (simp only [List.length_drop, List.length_take]; rfl)) ?_
 with_reducible refine (impl_Mat_axis.calls k t664 t665 t666 t667 t668 t669 _ A6.out).mono ?_
 rintro e w17 ⟨rfl, hb⟩
 refine ⟨_, rfl, ?_⟩
 have n0_ := Aside0.mk (bbl BK658 hb)
 have n1_ := Aside0.mk (bbl BK659 hb)
 have n2_ := Aside0.mk (bst2 HB GE658 GE659 hb)
 clear BK658
 clear BK659
 clear HB
 have BK658 := n0_
 have BK659 := n1_
 have HB := n2_
 clear n0_ n1_ n2_
 (try clear hb)
 (try clear hb2)
 (try clear hk)
 (try clear hi)
 refine hK.out _ _ ⟨bcl BK658 0, bcl BK658 1, bcl BK658 2, bcl BK659 0, bcl BK659 1, bcl BK659 2, bcl BK659 3⟩ (fun hHeld => ?_)
 clear hK K
 refine norm_ (a' := ?_) ?_ ?_
 rotate_left
 ·show Act.put _ (some 13) _ = _
  simp only [Act.put, sA, sB, sC, i64_w, i32_w]
  rfl
 refine one_ (i := 8) (N := some 14) #[true, true, true, true, true, true, true, true, true, false, false] rfl rfl (one_of HT_.out (by kernel_rfl)) (by decide) (fun K hK => ?_)
 refine goes_ Try.func54 (by kernel_rfl) rfl #[.agg #[.int .i64 a0_0, .int .i64 a0_1, .int .i64 a0_2], .agg #[.int .i64 t668, .int .i64 t669]] (by rfl) rfl rfl (by (try simp only [List.map_toArray, List.map_cons, List.map_nil]); first | done | rfl | (simp only [List.length_drop, List.length_take]; rfl)) ?_
 with_reducible refine (impl_Lattice_multipleIn.calls k a0_0 a0_1 a0_2 t668 t669 t670 t671 _ A7.out).mono ?_
 rintro e w18 ⟨rfl, hb⟩
 refine ⟨_, rfl, ?_⟩
 have n0_ := Aside0.mk (bbl BK658 hb)
 have n1_ := Aside0.mk (bbl BK659 hb)
 have n2_ := Aside0.mk (bst2 HB GE658 GE659 hb)
 clear BK658
 clear BK659
 clear HB
 have BK658 := n0_
 have BK659 := n1_
 have HB := n2_
 clear n0_ n1_ n2_
 (try clear hb)
 (try clear hb2)
 (try clear hk)
 (try clear hi)
 refine hK.out _ _ ⟨bcl BK658 0, bcl BK658 1, bcl BK658 2, bcl BK659 0, bcl BK659 1, bcl BK659 2, bcl BK659 3⟩ (fun hHeld => ?_)
 clear hK K
 refine norm_ (a' := ?_) ?_ ?_
 rotate_left
 ·show Act.put _ (some 14) _ = _
  simp only [Act.put, sA, sB, sC, i64_w, i32_w]
  rfl
 refine one_ (i := 9) (N := some 15) #[true, true, true, true, true, true, true, true, true, true, false] rfl rfl (one_of HT_.out (by kernel_rfl)) (by decide) (fun K hK => ?_)
 refine goes_ Try.func97 (by kernel_rfl) rfl #[.agg #[.int .i64 t662, .int .i64 t663], .agg #[.int .i64 t670, .int .i64 t671]] (by rfl) rfl rfl (by (try simp only [List.map_toArray, List.map_cons, List.map_nil]); first | done | rfl | (simp only [List.length_drop, List.length_take]; rfl)) ?_
 with_reducible refine (impl_det.calls t662 t663 t670 t671 t672 _ A8.out).mono ?_
 rintro e w19 ⟨rfl, hb⟩
 refine ⟨_, rfl, ?_⟩
 have n0_ := Aside0.mk (bbl BK658 hb)
 have n1_ := Aside0.mk (bbl BK659 hb)
 have n2_ := Aside0.mk (bst2 HB GE658 GE659 hb)
 clear BK658
 clear BK659
 clear HB
 have BK658 := n0_
 have BK659 := n1_
 have HB := n2_
 clear n0_ n1_ n2_
 (try clear hb)
 (try clear hb2)
 (try clear hk)
 (try clear hi)
 refine hK.out _ _ ⟨bcl BK658 0, bcl BK658 1, bcl BK658 2, bcl BK659 0, bcl BK659 1, bcl BK659 2, bcl BK659 3⟩ (fun hHeld => ?_)
 clear hK K
 refine norm_ (a' := ?_) ?_ ?_
 rotate_left
 ·show Act.put _ (some 15) _ = _
  simp only [Act.put, sA, sB, sC, i64_w, i32_w]
  rfl
 refine pure_ (i := 10) (N := some 5) (v := ?_) (a' := ?_) #[true, true, true, true, true, true, true, true, true, true, true] rfl rfl (any_of HT_.out (by kernel_rfl)) (fun _ _ _ h => h) (Or.inl ⟨by rfl, ?_⟩) ?_ ?_
 rotate_left
 ·intro w'
  go_simp
  with_reducible rfl
 rotate_left
 ·simp only [Act.put, sA, sB, sC, i64_w, i32_w]
  rfl
 refine done_ (done_of HT_.out (by kernel_rfl)) ?_
 have hnb20 := NB658_659.out
 have hnc20 := NB659_658.out
 have hcz21_0 : w19.cell? ⟨gb658, 0, none⟩ = some (.int .i64 a0_0) := bcl BK658 0
 have hcz21_1 : w19.cell? ⟨gb658, 1, none⟩ = some (.int .i64 a0_1) := bcl BK658 1
 have hcz21_2 : w19.cell? ⟨gb658, 2, none⟩ = some (.int .i64 a0_2) := bcl BK658 2
 have hfz21_0 := blk_frozen BK658.out 0
 have hfz21_1 := blk_frozen BK658.out 1
 have hfz21_2 := blk_frozen BK658.out 2
 try go_wp2_with (first | ((with_reducible refine gate_callee (f := 99) rfl ?_); refine goesL_ (some 21) rfl rfl Try.func99 (by kernel_rfl) rfl #[.agg #[.int .i64 a0_0, .int .i64 a0_1, .int .i64 a0_2]] rfl (by (try simp only [List.map_toArray, List.map_cons, List.map_nil]); first | done | rfl | (simp only [List.length_drop, List.length_take]; rfl)) ?_; (with_reducible refine (impl_Lattice_index.calls a0_0 a0_1 a0_2 t673 _ A10.out).mono ?_); rintro e w22 ⟨rfl, hb⟩; refine ⟨_, rfl, ?_⟩; have n0_ := Aside0.mk (bbl BK658 hb); have n1_ := Aside0.mk (bbl BK659 hb); have n2_ := Aside0.mk (bst2 HB GE658 GE659 hb); clear BK658; clear BK659; clear HB; have BK658 := n0_; have BK659 := n1_; have HB := n2_; clear n0_ n1_ n2_; (try clear hb); (try clear hb2); (try clear hk); (try clear hi)))
 go_ret
 exact ⟨by first | rfl | (simp [errW_none, errW_some] <;> rfl) | (simp only [← hji9]; first | rfl | (simp [errW_none, errW_some] <;> rfl)) | (simp [*, errW_none, errW_some] <;> rfl), bbw2 HB GE658 GE659⟩

/-! ### impl_IsCentred: function 28 -/
def impl_IsCentred.f (k : Nat) (a0 : Int) (a1_0 : Int) (a1_1 : Int) (a1_2 : Int) (a2_0 : Int) (a2_1 : Int) (a2_2 : Int) (a2_3 : Int) : Option (Bool × Int) := (impl_mirrorCode.f k a0 a1_0 a1_1 a1_2 a2_0 a2_1 a2_2 a2_3).bind fun t676 => (if t676 = 0 then ((impl_Lattice_isCentred.f k a1_0 a1_1 a1_2 a2_0 a2_1 a2_2 a2_3).bind fun t677 => (some (t677, 0))) else (some (false, t676)))
set_option maxHeartbeats 8000000 in
set_option maxRecDepth 100000 in
theorem impl_IsCentred.calls (k : Nat) (a0 : Int) (a1_0 : Int) (a1_1 : Int) (a1_2 : Int) (a2_0 : Int) (a2_1 : Int) (a2_2 : Int) (a2_3 : Int) (r1 : Bool) (r2 : Int) (w : World) (h : impl_IsCentred.f k a0 a1_0 a1_1 a1_2 a2_0 a2_1 a2_2 a2_3 = some (r1, r2)) :
  Calls Try.prog 28 #[.int .i64 a0, .agg #[.int .i64 a1_0, .int .i64 a1_1, .int .i64 a1_2], .agg #[.int .i64 a2_0, .int .i64 a2_1, .int .i64 a2_2, .int .i64 a2_3]] w fun e w' => e = .returned (.tuple #[.bool r1, .int .i64 r2]) ∧ Below w.heap.size w w' := by
 have hu31 := Try.underlying31
 have hu33 := Try.underlying33
 have HB := Aside0.mk (Below.refl w.heap.size w)
 have H : ((impl_mirrorCode.f k a0 a1_0 a1_1 a1_2 a2_0 a2_1 a2_2 a2_3).bind fun t676 => (if t676 = 0 then ((impl_Lattice_isCentred.f k a1_0 a1_1 a1_2 a2_0 a2_1 a2_2 a2_3).bind fun t677 => (some (t677, 0))) else (some (false, t676)))) = some (r1, r2) := h
 clear h
 replace H := Option.bind_eq_some_iff.mp H
 obtain ⟨t676, A40, H⟩ := H
 replace H : (if t676 = 0 then ((impl_Lattice_isCentred.f k a1_0 a1_1 a1_2 a2_0 a2_1 a2_2 a2_3).bind fun t677 => (some (t677, 0))) else (some (false, t676))) = some (r1, r2) := H
 have A4 := Aside0.mk A40
 clear A40
 by_cases c5 : t676 = 0
 ·rw [if_pos c5] at H
  have c5b0 : (t676 == 0) = true := beq_iff_eq.mpr c5
  have c5b1 : (t676 != 0) = false := bne_eq_false_iff_eq.mpr c5
  clear c5
  replace H := Option.bind_eq_some_iff.mp H
  obtain ⟨t677, A60, H⟩ := H
  replace H : (some (t677, 0)) = some (r1, r2) := H
  have A6 := Aside0.mk A60
  clear A60
  simp only [Option.some.injEq, Prod.mk.injEq] at H
  obtain ⟨rfl, rfl⟩ := H
  go_enter Try.func28, Try.ntmps28
  go_wp2_with (first | ((with_reducible refine gate_dst (N := 4) rfl ?_); refine box_event ?hg (N := 4) ?hd (cs := #[.int .i64 a1_0, .int .i64 a1_1, .int .i64 a1_2]) (t := 31) ?hr ?_; (case hd => rfl); (case hg => rfl); (case hr => first | (go_simp; done) | (go_simp; rfl)); intro gb674 hg w7 hbox hb; have n0_ := Aside0.mk (bst0 HB hb); have n1_ := Aside0.mk (hbox); have n2_ := ngw0 hg HB; have n3_ := n2_; clear HB; have HB := n0_; have BK674 := n1_; have GW674 := n2_; have GE674 := n3_; clear n0_ n1_ n2_ n3_; clear hb hbox hg) | ((with_reducible refine gate_dst (N := 5) rfl ?_); refine box_event ?hg (N := 5) ?hd (cs := #[.int .i64 a2_0, .int .i64 a2_1, .int .i64 a2_2, .int .i64 a2_3]) (t := 33) ?hr ?_; (case hd => rfl); (case hg => rfl); (case hr => first | (go_simp; done) | (go_simp; rfl)); intro gb675 hg w8 hbox hb; have n0_ := Aside0.mk (bbl BK674 hb); have n1_ := Aside0.mk (bst1 HB GE674 hb); have n2_ := Aside0.mk (hbox); have n3_ := ngw1 hg HB GE674; have n4_ := n3_; have n5_ := nlt hg BK674; have n6_ := nsy (nlt hg BK674); clear BK674; clear HB; have BK674 := n0_; have HB := n1_; have BK675 := n2_; have GW675 := n3_; have GE675 := n4_; have NB674_675 := n5_; have NB675_674 := n6_; clear n0_ n1_ n2_ n3_ n4_ n5_ n6_; clear hb hbox hg; have hnb9 := NB674_675.out; have hnc9 := NB675_674.out; have hcz10_0 : w8.cell? ⟨gb674, 0, none⟩ = some (.int .i64 a1_0) := bcl BK674 0; have hcz10_1 : w8.cell? ⟨gb674, 1, none⟩ = some (.int .i64 a1_1) := bcl BK674 1; have hcz10_2 : w8.cell? ⟨gb674, 2, none⟩ = some (.int .i64 a1_2) := bcl BK674 2; have hfz10_0 := blk_frozen BK674.out 0; have hfz10_1 := blk_frozen BK674.out 1; have hfz10_2 := blk_frozen BK674.out 2; have hcz11_0 : w8.cell? ⟨gb675, 0, none⟩ = some (.int .i64 a2_0) := bcl BK675 0; have hcz11_1 : w8.cell? ⟨gb675, 1, none⟩ = some (.int .i64 a2_1) := bcl BK675 1; have hcz11_2 : w8.cell? ⟨gb675, 2, none⟩ = some (.int .i64 a2_2) := bcl BK675 2; have hcz11_3 : w8.cell? ⟨gb675, 3, none⟩ = some (.int .i64 a2_3) := bcl BK675 3; have hfz11_0 := blk_frozen BK675.out 0; have hfz11_1 := blk_frozen BK675.out 1; have hfz11_2 := blk_frozen BK675.out 2; have hfz11_3 := blk_frozen BK675.out 3) | ((with_reducible refine gate_callee (f := 53) rfl ?_); refine goesL_ (some 12) rfl rfl Try.func53 (by kernel_rfl) rfl #[.int .i64 a0, .agg #[.int .i64 a1_0, .int .i64 a1_1, .int .i64 a1_2], .agg #[.int .i64 a2_0, .int .i64 a2_1, .int .i64 a2_2, .int .i64 a2_3]] rfl (by (try simp only [List.map_toArray, List.map_cons, List.map_nil]); first | done | rfl | (simp only [List.length_drop, List.length_take]; rfl)) ?_; (with_reducible refine (impl_mirrorCode.calls k a0 a1_0 a1_1 a1_2 a2_0 a2_1 a2_2 a2_3 t676 _ A4.out).mono ?_); rintro e w12 ⟨rfl, hb⟩; refine ⟨_, rfl, ?_⟩; have n0_ := Aside0.mk (bbl BK674 hb); have n1_ := Aside0.mk (bbl BK675 hb); have n2_ := Aside0.mk (bst2 HB GE674 GE675 hb); clear BK674; clear BK675; clear HB; have BK674 := n0_; have BK675 := n1_; have HB := n2_; clear n0_ n1_ n2_; (try clear hb); (try clear hb2); (try clear hk); (try clear hi); have hcz13_0 : w12.cell? ⟨gb674, 0, none⟩ = some (.int .i64 a1_0) := bcl BK674 0; have hcz13_1 : w12.cell? ⟨gb674, 1, none⟩ = some (.int .i64 a1_1) := bcl BK674 1; have hcz13_2 : w12.cell? ⟨gb674, 2, none⟩ = some (.int .i64 a1_2) := bcl BK674 2; have hfz13_0 := blk_frozen BK674.out 0; have hfz13_1 := blk_frozen BK674.out 1; have hfz13_2 := blk_frozen BK674.out 2; have hcz14_0 : w12.cell? ⟨gb675, 0, none⟩ = some (.int .i64 a2_0) := bcl BK675 0; have hcz14_1 : w12.cell? ⟨gb675, 1, none⟩ = some (.int .i64 a2_1) := bcl BK675 1; have hcz14_2 : w12.cell? ⟨gb675, 2, none⟩ = some (.int .i64 a2_2) := bcl BK675 2; have hcz14_3 : w12.cell? ⟨gb675, 3, none⟩ = some (.int .i64 a2_3) := bcl BK675 3; have hfz14_0 := blk_frozen BK675.out 0; have hfz14_1 := blk_frozen BK675.out 1; have hfz14_2 := blk_frozen BK675.out 2; have hfz14_3 := blk_frozen BK675.out 3) | ((with_reducible refine gate_callee (f := 57) rfl ?_); refine goesL_ (some 18) rfl rfl Try.func57 (by kernel_rfl) rfl #[.agg #[.int .i64 a1_0, .int .i64 a1_1, .int .i64 a1_2], .agg #[.int .i64 a2_0, .int .i64 a2_1, .int .i64 a2_2, .int .i64 a2_3]] rfl (by (try simp only [List.map_toArray, List.map_cons, List.map_nil]); first | done | rfl | (simp only [List.length_drop, List.length_take]; rfl)) ?_; (with_reducible refine (impl_Lattice_isCentred.calls k a1_0 a1_1 a1_2 a2_0 a2_1 a2_2 a2_3 t677 _ A6.out).mono ?_); rintro e w15 ⟨rfl, hb⟩; refine ⟨_, rfl, ?_⟩; have n0_ := Aside0.mk (bbl BK674 hb); have n1_ := Aside0.mk (bbl BK675 hb); have n2_ := Aside0.mk (bst2 HB GE674 GE675 hb); clear BK674; clear BK675; clear HB; have BK674 := n0_; have BK675 := n1_; have HB := n2_; clear n0_ n1_ n2_; (try clear hb); (try clear hb2); (try clear hk); (try clear hi)))
  go_ret2
  exact ⟨by first | rfl | (simp [errW_none, errW_some] <;> rfl) | (simp [*, errW_none, errW_some] <;> rfl), bbw2 HB GE674 GE675⟩
 ·rw [if_neg c5] at H
  have c5b0 : (t676 == 0) = false := beq_eq_false_iff_ne.mpr c5
  have c5b1 : (t676 != 0) = true := bne_iff_ne.mpr c5
  simp only [Option.some.injEq, Prod.mk.injEq] at H
  obtain ⟨rfl, rfl⟩ := H
  go_enter Try.func28, Try.ntmps28
  go_wp2_with (first | ((with_reducible refine gate_dst (N := 4) rfl ?_); refine box_event ?hg (N := 4) ?hd (cs := #[.int .i64 a1_0, .int .i64 a1_1, .int .i64 a1_2]) (t := 31) ?hr ?_; (case hd => rfl); (case hg => rfl); (case hr => first | (go_simp; done) | (go_simp; rfl)); intro gb674 hg w16 hbox hb; have n0_ := Aside0.mk (bst0 HB hb); have n1_ := Aside0.mk (hbox); have n2_ := ngw0 hg HB; have n3_ := n2_; clear HB; have HB := n0_; have BK674 := n1_; have GW674 := n2_; have GE674 := n3_; clear n0_ n1_ n2_ n3_; clear hb hbox hg) | ((with_reducible refine gate_dst (N := 5) rfl ?_); refine box_event ?hg (N := 5) ?hd (cs := #[.int .i64 a2_0, .int .i64 a2_1, .int .i64 a2_2, .int .i64 a2_3]) (t := 33) ?hr ?_; (case hd => rfl); (case hg => rfl); (case hr => first | (go_simp; done) | (go_simp; rfl)); intro gb675 hg w17 hbox hb; have n0_ := Aside0.mk (bbl BK674 hb); have n1_ := Aside0.mk (bst1 HB GE674 hb); have n2_ := Aside0.mk (hbox); have n3_ := ngw1 hg HB GE674; have n4_ := n3_; have n5_ := nlt hg BK674; have n6_ := nsy (nlt hg BK674); clear BK674; clear HB; have BK674 := n0_; have HB := n1_; have BK675 := n2_; have GW675 := n3_; have GE675 := n4_; have NB674_675 := n5_; have NB675_674 := n6_; clear n0_ n1_ n2_ n3_ n4_ n5_ n6_; clear hb hbox hg; have hnb18 := NB674_675.out; have hnc18 := NB675_674.out; have hcz19_0 : w17.cell? ⟨gb674, 0, none⟩ = some (.int .i64 a1_0) := bcl BK674 0; have hcz19_1 : w17.cell? ⟨gb674, 1, none⟩ = some (.int .i64 a1_1) := bcl BK674 1; have hcz19_2 : w17.cell? ⟨gb674, 2, none⟩ = some (.int .i64 a1_2) := bcl BK674 2; have hfz19_0 := blk_frozen BK674.out 0; have hfz19_1 := blk_frozen BK674.out 1; have hfz19_2 := blk_frozen BK674.out 2; have hcz20_0 : w17.cell? ⟨gb675, 0, none⟩ = some (.int .i64 a2_0) := bcl BK675 0; have hcz20_1 : w17.cell? ⟨gb675, 1, none⟩ = some (.int .i64 a2_1) := bcl BK675 1; have hcz20_2 : w17.cell? ⟨gb675, 2, none⟩ = some (.int .i64 a2_2) := bcl BK675 2; have hcz20_3 : w17.cell? ⟨gb675, 3, none⟩ = some (.int .i64 a2_3) := bcl BK675 3; have hfz20_0 := blk_frozen BK675.out 0; have hfz20_1 := blk_frozen BK675.out 1; have hfz20_2 := blk_frozen BK675.out 2; have hfz20_3 := blk_frozen BK675.out 3) | ((with_reducible refine gate_callee (f := 53) rfl ?_); refine goesL_ (some 12) rfl rfl Try.func53 (by kernel_rfl) rfl #[.int .i64 a0, .agg #[.int .i64 a1_0, .int .i64 a1_1, .int .i64 a1_2], .agg #[.int .i64 a2_0, .int .i64 a2_1, .int .i64 a2_2, .int .i64 a2_3]] rfl (by (try simp only [List.map_toArray, List.map_cons, List.map_nil]); first | done | rfl | (simp only [List.length_drop, List.length_take]; rfl)) ?_; (with_reducible refine (impl_mirrorCode.calls k a0 a1_0 a1_1 a1_2 a2_0 a2_1 a2_2 a2_3 t676 _ A4.out).mono ?_); rintro e w21 ⟨rfl, hb⟩; refine ⟨_, rfl, ?_⟩; have n0_ := Aside0.mk (bbl BK674 hb); have n1_ := Aside0.mk (bbl BK675 hb); have n2_ := Aside0.mk (bst2 HB GE674 GE675 hb); clear BK674; clear BK675; clear HB; have BK674 := n0_; have BK675 := n1_; have HB := n2_; clear n0_ n1_ n2_; (try clear hb); (try clear hb2); (try clear hk); (try clear hi)))
  go_ret2
  exact ⟨by first | rfl | (simp [errW_none, errW_some] <;> rfl) | (simp [*, errW_none, errW_some] <;> rfl), bbw2 HB GE674 GE675⟩

/-! ### laws_FnExactIsCentred: function 7 -/
def laws_FnExactIsCentred.f (k : Nat) (a0 : Int) (a1_0 : Int) (a1_1 : Int) (a1_2 : Int) (a2_0 : Int) (a2_1 : Int) (a2_2 : Int) (a2_3 : Int) : Option (Bool) := (laws_toLattice.f a1_0 a1_1 a1_2).bind fun bt680 => ((laws_toMat.f a2_0 a2_1 a2_2 a2_3).bind fun bt683 => ((spec_IsCentred.f k a0 bt680.1 bt680.2.1 bt680.2.2 bt683.1 bt683.2.1 bt683.2.2.1 bt683.2.2.2).bind fun bt687 => ((laws_toLattice.f a1_0 a1_1 a1_2).bind fun bt689 => ((laws_toMat.f a2_0 a2_1 a2_2 a2_3).bind fun bt692 => ((impl_IsCentred.f k a0 bt689.1 bt689.2.1 bt689.2.2 bt692.1 bt692.2.1 bt692.2.2.1 bt692.2.2.2).bind fun bt696 => (if (bt696.1 != bt687.1) = true then (some false) else (if bt696.2 = bt687.2 then (some true) else (some false))))))))
def laws_FnExactIsCentred.T1 : Bool × List (List Nat × List Nat) := (true, [([], []), ([], []), ([1], [1]), ([], []), ([3, 2], [3]), ([0, 2, 4, 4], [0, 2, 4]), ([5], [5]), ([6], [6]), ([6], [6]), ([7, 5, 0, 1, 2, 3, 4, 5, 6, 7], [7]), ([8, 9, 0, 1, 2, 3, 4, 5, 6, 7, 8, 9], [8])])
def laws_FnExactIsCentred.B1 : List Nat := [0, 0, 2, 0, 14, 31, 63, 127, 127, 255, 1023]
theorem laws_FnExactIsCentred.tab1 : rtab .any (opsOf Try.f7 1) = laws_FnExactIsCentred.T1 := by kernel_rfl
theorem laws_FnExactIsCentred.bits1 : waitsOk laws_FnExactIsCentred.T1.2 laws_FnExactIsCentred.B1 = true := by kernel_rfl
def laws_FnExactIsCentred.T2 : Bool × List (List Nat × List Nat) := (true, [([], []), ([], []), ([1], [1]), ([], []), ([3, 2], [3]), ([0, 2, 4, 4], [0, 2, 4]), ([5], [5]), ([6], [6]), ([6], [6]), ([7, 5, 0, 1, 2, 3, 4, 5, 6, 7], [7]), ([8, 9, 0, 1, 2, 3, 4, 5, 6, 7, 8, 9], [8])])
def laws_FnExactIsCentred.B2 : List Nat := [0, 0, 2, 0, 14, 31, 63, 127, 127, 255, 1023]
theorem laws_FnExactIsCentred.tab2 : rtab .any (opsOf Try.f7 2) = laws_FnExactIsCentred.T2 := by kernel_rfl
theorem laws_FnExactIsCentred.bits2 : waitsOk laws_FnExactIsCentred.T2.2 laws_FnExactIsCentred.B2 = true := by kernel_rfl
set_option maxHeartbeats 8000000 in
set_option maxRecDepth 100000 in
theorem laws_FnExactIsCentred.calls (k : Nat) (a0 : Int) (a1_0 : Int) (a1_1 : Int) (a1_2 : Int) (a2_0 : Int) (a2_1 : Int) (a2_2 : Int) (a2_3 : Int) (w : World) (h : laws_FnExactIsCentred.f k a0 a1_0 a1_1 a1_2 a2_0 a2_1 a2_2 a2_3 = some true) :
  Calls Try.prog 7 #[.int .i64 a0, .agg #[.int .i64 a1_0, .int .i64 a1_1, .int .i64 a1_2], .agg #[.int .i64 a2_0, .int .i64 a2_1, .int .i64 a2_2, .int .i64 a2_3]] w fun e w' => e = .returned (.bool true) ∧ Below w.heap.size w w' := by
 have hu23 := Try.underlying23
 have hu25 := Try.underlying25
 have HB := Aside0.mk (Below.refl w.heap.size w)
 have H : ((laws_toLattice.f a1_0 a1_1 a1_2).bind fun bt680 => ((laws_toMat.f a2_0 a2_1 a2_2 a2_3).bind fun bt683 => ((spec_IsCentred.f k a0 bt680.1 bt680.2.1 bt680.2.2 bt683.1 bt683.2.1 bt683.2.2.1 bt683.2.2.2).bind fun bt687 => ((laws_toLattice.f a1_0 a1_1 a1_2).bind fun bt689 => ((laws_toMat.f a2_0 a2_1 a2_2 a2_3).bind fun bt692 => ((impl_IsCentred.f k a0 bt689.1 bt689.2.1 bt689.2.2 bt692.1 bt692.2.1 bt692.2.2.1 bt692.2.2.2).bind fun bt696 => (if (bt696.1 != bt687.1) = true then (some false) else (if bt696.2 = bt687.2 then (some true) else (some false))))))))) = some true := h
 clear h
 replace H := Option.bind_eq_some_iff.mp H
 obtain ⟨⟨t680, t681, t682⟩, A40, H⟩ := H
 replace H : ((laws_toMat.f a2_0 a2_1 a2_2 a2_3).bind fun bt683 => ((spec_IsCentred.f k a0 t680 t681 t682 bt683.1 bt683.2.1 bt683.2.2.1 bt683.2.2.2).bind fun bt687 => ((laws_toLattice.f a1_0 a1_1 a1_2).bind fun bt689 => ((laws_toMat.f a2_0 a2_1 a2_2 a2_3).bind fun bt692 => ((impl_IsCentred.f k a0 bt689.1 bt689.2.1 bt689.2.2 bt692.1 bt692.2.1 bt692.2.2.1 bt692.2.2.2).bind fun bt696 => (if (bt696.1 != bt687.1) = true then (some false) else (if bt696.2 = bt687.2 then (some true) else (some false)))))))) = some true := H
 have A4 := Aside0.mk A40
 clear A40
 replace H := Option.bind_eq_some_iff.mp H
 obtain ⟨⟨t683, t684, t685, t686⟩, A50, H⟩ := H
 replace H : ((spec_IsCentred.f k a0 t680 t681 t682 t683 t684 t685 t686).bind fun bt687 => ((laws_toLattice.f a1_0 a1_1 a1_2).bind fun bt689 => ((laws_toMat.f a2_0 a2_1 a2_2 a2_3).bind fun bt692 => ((impl_IsCentred.f k a0 bt689.1 bt689.2.1 bt689.2.2 bt692.1 bt692.2.1 bt692.2.2.1 bt692.2.2.2).bind fun bt696 => (if (bt696.1 != bt687.1) = true then (some false) else (if bt696.2 = bt687.2 then (some true) else (some false))))))) = some true := H
 have A5 := Aside0.mk A50
 clear A50
 replace H := Option.bind_eq_some_iff.mp H
 obtain ⟨⟨t687, t688⟩, A60, H⟩ := H
 replace H : ((laws_toLattice.f a1_0 a1_1 a1_2).bind fun bt689 => ((laws_toMat.f a2_0 a2_1 a2_2 a2_3).bind fun bt692 => ((impl_IsCentred.f k a0 bt689.1 bt689.2.1 bt689.2.2 bt692.1 bt692.2.1 bt692.2.2.1 bt692.2.2.2).bind fun bt696 => (if (bt696.1 != t687) = true then (some false) else (if bt696.2 = t688 then (some true) else (some false)))))) = some true := H
 have A6 := Aside0.mk A60
 clear A60
 replace H := Option.bind_eq_some_iff.mp H
 obtain ⟨⟨t689, t690, t691⟩, A70, H⟩ := H
 replace H : ((laws_toMat.f a2_0 a2_1 a2_2 a2_3).bind fun bt692 => ((impl_IsCentred.f k a0 t689 t690 t691 bt692.1 bt692.2.1 bt692.2.2.1 bt692.2.2.2).bind fun bt696 => (if (bt696.1 != t687) = true then (some false) else (if bt696.2 = t688 then (some true) else (some false))))) = some true := H
 have A7 := Aside0.mk A70
 clear A70
 replace H := Option.bind_eq_some_iff.mp H
 obtain ⟨⟨t692, t693, t694, t695⟩, A80, H⟩ := H
 replace H : ((impl_IsCentred.f k a0 t689 t690 t691 t692 t693 t694 t695).bind fun bt696 => (if (bt696.1 != t687) = true then (some false) else (if bt696.2 = t688 then (some true) else (some false)))) = some true := H
 have A8 := Aside0.mk A80
 clear A80
 replace H := Option.bind_eq_some_iff.mp H
 obtain ⟨⟨t696, t697⟩, A90, H⟩ := H
 replace H : (if (t696 != t687) = true then (some false) else (if t697 = t688 then (some true) else (some false))) = some true := H
 have A9 := Aside0.mk A90
 clear A90
 by_cases c10 : (t696 != t687) = true
 ·rw [if_pos c10] at H
  have c10b0 : (t696 != t687) = true := c10
  (try (have c10b1 : decide (t696 = t687) = false := by simpa using c10))
  (try (have c10b2 : (t696 == t687) = false := by simpa using c10))
  (try (have c10b3 : ¬ (t696 = t687) := by simpa using c10))
  clear c10
  exact absurd H (by simp)
 ·rw [if_neg c10] at H
  have c10b0 : (t696 != t687) = false := by simpa using c10
  (try (have c10b1 : decide (t696 = t687) = true := by simpa using c10))
  (try (have c10b2 : (t696 == t687) = true := by simpa using c10))
  clear c10
  by_cases c11 : t697 = t688
  ·rw [if_pos c11] at H
   have c11b0 : (t697 == t688) = true := beq_iff_eq.mpr c11
   have c11b1 : (t697 != t688) = false := bne_eq_false_iff_eq.mpr c11
   clear c11
   clear H
   go_enter Try.func7, Try.ntmps7
   try go_wp2_with (first | ((with_reducible refine gate_dst (N := 4) rfl ?_); refine box_event ?hg (N := 4) ?hd (cs := #[.int .i64 a1_0, .int .i64 a1_1, .int .i64 a1_2]) (t := 23) ?hr ?_; (case hd => rfl); (case hg => rfl); (case hr => first | (go_simp; done) | (go_simp; rfl)); intro gb678 hg w12 hbox hb; have n0_ := Aside0.mk (bst0 HB hb); have n1_ := Aside0.mk (hbox); have n2_ := ngw0 hg HB; have n3_ := n2_; clear HB; have HB := n0_; have BK678 := n1_; have GW678 := n2_; have GE678 := n3_; clear n0_ n1_ n2_ n3_; clear hb hbox hg) | ((with_reducible refine gate_dst (N := 5) rfl ?_); refine box_event ?hg (N := 5) ?hd (cs := #[.int .i64 a2_0, .int .i64 a2_1, .int .i64 a2_2, .int .i64 a2_3]) (t := 25) ?hr ?_; (case hd => rfl); (case hg => rfl); (case hr => first | (go_simp; done) | (go_simp; rfl)); intro gb679 hg w13 hbox hb; have n0_ := Aside0.mk (bbl BK678 hb); have n1_ := Aside0.mk (bst1 HB GE678 hb); have n2_ := Aside0.mk (hbox); have n3_ := ngw1 hg HB GE678; have n4_ := n3_; have n5_ := nlt hg BK678; have n6_ := nsy (nlt hg BK678); clear BK678; clear HB; have BK678 := n0_; have HB := n1_; have BK679 := n2_; have GW679 := n3_; have GE679 := n4_; have NB678_679 := n5_; have NB679_678 := n6_; clear n0_ n1_ n2_ n3_ n4_ n5_ n6_; clear hb hbox hg))
   have n0_ := Aside0.mk (blk_drew BK678.out)
   have n1_ := Aside0.mk (blk_drew BK679.out)
   have n2_ := Aside0.mk (below_drew1 HB.out)
   clear BK678
   clear BK679
   clear HB
   have BK678 := n0_
   have BK679 := n1_
   have HB := n2_
   clear n0_ n1_ n2_
   refine start_ (n := 11) (S := fun w' => w'.cell? ⟨gb678, 0, none⟩ = some (.int .i64 a1_0) ∧ w'.cell? ⟨gb678, 1, none⟩ = some (.int .i64 a1_1) ∧ w'.cell? ⟨gb678, 2, none⟩ = some (.int .i64 a1_2) ∧ w'.cell? ⟨gb679, 0, none⟩ = some (.int .i64 a2_0) ∧ w'.cell? ⟨gb679, 1, none⟩ = some (.int .i64 a2_1) ∧ w'.cell? ⟨gb679, 2, none⟩ = some (.int .i64 a2_2) ∧ w'.cell? ⟨gb679, 3, none⟩ = some (.int .i64 a2_3)) (ds := []) #[false, false, false, false, false, false, false, false, false, false, false] (by kernel_rfl) rfl rfl ⟨bcl BK678 0, bcl BK678 1, bcl BK678 2, bcl BK679 0, bcl BK679 1, bcl BK679 2, bcl BK679 3⟩ (fun hHeld => ?_); refine with_tabW laws_FnExactIsCentred.tab1 laws_FnExactIsCentred.bits1 (fun HT_ HW_ => ?_)
   generalize w13.drew = w14 at BK678 BK679 HB hHeld ⊢
   refine pure_ (i := 0) (N := some 12) (v := ?_) (a' := ?_) #[true, false, false, false, false, false, false, false, false, false, false] rfl rfl (any_of HT_.out (by kernel_rfl)) (fun _ _ _ h => h) (Or.inl ⟨by rfl, ?_⟩) ?_ ?_
   rotate_left
   ·intro w'
    go_simp
    with_reducible rfl
   rotate_left
   ·simp only [Act.put, sA, sB, sC, i64_w, i32_w]
    rfl
   refine take_ (i := 1) (N := some 13) (v := ?_) (a' := ?_) #[true, true, false, false, false, false, false, false, false, false, false] rfl rfl (take_ofW HT_.out HW_.out (by kernel_rfl)) (fun _ _ _ h => h) (Or.inl ⟨by rfl, ?_⟩) hHeld ?_ ?_
   rotate_left
   ·rintro w' ⟨s0, s1, s2, s3, s4, s5, s6⟩
    go_simp
    with_reducible rfl
   rotate_left
   ·simp only [Act.put, sA, sB, sC, i64_w, i32_w]
    rfl
   refine take_ (i := 3) (N := some 15) (v := ?_) (a' := ?_) #[true, true, false, true, false, false, false, false, false, false, false] rfl rfl (take_ofW HT_.out HW_.out (by kernel_rfl)) (fun _ _ _ h => h) (Or.inl ⟨by rfl, ?_⟩) hHeld ?_ ?_
   rotate_left
   ·rintro w' ⟨s0, s1, s2, s3, s4, s5, s6⟩
    go_simp
    with_reducible rfl
   rotate_left
   ·simp only [Act.put, sA, sB, sC, i64_w, i32_w]
    rfl
   refine one_ (i := 2) (N := some 14) #[true, true, true, true, false, false, false, false, false, false, false] rfl rfl (one_of HT_.out (by kernel_rfl)) (by decide) (fun K hK => ?_)
   refine goes_ Try.func12 (by kernel_rfl) rfl #[.agg #[.int .i64 a1_0, .int .i64 a1_1, .int .i64 a1_2]] (by rfl) rfl rfl (by (try simp only [List.map_toArray, List.map_cons, List.map_nil]); first | done | rfl | (simp only [List.length_drop, List.length_take]; rfl)) ?_
   with_reducible refine (laws_toLattice.calls a1_0 a1_1 a1_2 t680 t681 t682 _ A4.out).mono ?_
   rintro e w15 ⟨rfl, hb⟩
   refine ⟨_, rfl, ?_⟩
   have n0_ := Aside0.mk (bbl BK678 hb)
   have n1_ := Aside0.mk (bbl BK679 hb)
   have n2_ := Aside0.mk (bst2 HB GE678 GE679 hb)
   clear BK678
   clear BK679
   clear HB
   have BK678 := n0_
   have BK679 := n1_
   have HB := n2_
   clear n0_ n1_ n2_
   (try clear hb)
   (try clear hb2)
   (try clear hk)
   (try clear hi)
   refine hK.out _ _ ⟨bcl BK678 0, bcl BK678 1, bcl BK678 2, bcl BK679 0, bcl BK679 1, bcl BK679 2, bcl BK679 3⟩ (fun hHeld => ?_)
   clear hK K
   refine norm_ (a' := ?_) ?_ ?_
   rotate_left
   ·show Act.put _ (some 14) _ = _
    simp only [Act.put, sA, sB, sC, i64_w, i32_w]
    rfl
   refine one_ (i := 4) (N := some 16) #[true, true, true, true, true, false, false, false, false, false, false] rfl rfl (one_of HT_.out (by kernel_rfl)) (by decide) (fun K hK => ?_)
   refine goes_ Try.func24 (by kernel_rfl) rfl #[.agg #[.int .i64 a2_0, .int .i64 a2_1, .int .i64 a2_2, .int .i64 a2_3]] (by rfl) rfl rfl (by (try simp only [List.map_toArray, List.map_cons, List.map_nil]); first | done | rfl | (simp only [List.length_drop, List.length_take]; rfl)) ?_
   with_reducible refine (laws_toMat.calls a2_0 a2_1 a2_2 a2_3 t683 t684 t685 t686 _ A5.out).mono ?_
   rintro e w16 ⟨rfl, hb⟩
   refine ⟨_, rfl, ?_⟩
   have n0_ := Aside0.mk (bbl BK678 hb)
   have n1_ := Aside0.mk (bbl BK679 hb)
   have n2_ := Aside0.mk (bst2 HB GE678 GE679 hb)
   clear BK678
   clear BK679
   clear HB
   have BK678 := n0_
   have BK679 := n1_
   have HB := n2_
   clear n0_ n1_ n2_
   (try clear hb)
   (try clear hb2)
   (try clear hk)
   (try clear hi)
   refine hK.out _ _ ⟨bcl BK678 0, bcl BK678 1, bcl BK678 2, bcl BK679 0, bcl BK679 1, bcl BK679 2, bcl BK679 3⟩ (fun hHeld => ?_)
   clear hK K
   refine norm_ (a' := ?_) ?_ ?_
   rotate_left
   ·show Act.put _ (some 16) _ = _
    simp only [Act.put, sA, sB, sC, i64_w, i32_w]
    rfl
   refine one_ (i := 5) (N := some 17) #[true, true, true, true, true, true, false, false, false, false, false] rfl rfl (one_of HT_.out (by kernel_rfl)) (by decide) (fun K hK => ?_)
   refine goes_ Try.func27 (by kernel_rfl) rfl #[.int .i64 a0, .agg #[.int .i64 t680, .int .i64 t681, .int .i64 t682], .agg #[.int .i64 t683, .int .i64 t684, .int .i64 t685, .int .i64 t686]] (by rfl) rfl rfl (by (try simp only [List.map_toArray, List.map_cons, List.map_nil]); first | done | rfl | (simp only [List.length_drop, List.length_take]; rfl)) ?_
   with_reducible refine (spec_IsCentred.calls k a0 t680 t681 t682 t683 t684 t685 t686 t687 t688 _ A6.out).mono ?_
   rintro e w17 ⟨rfl, hb⟩
   refine ⟨_, rfl, ?_⟩
   have n0_ := Aside0.mk (bbl BK678 hb)
   have n1_ := Aside0.mk (bbl BK679 hb)
   have n2_ := Aside0.mk (bst2 HB GE678 GE679 hb)
   clear BK678
   clear BK679
   clear HB
   have BK678 := n0_
   have BK679 := n1_
   have HB := n2_
   clear n0_ n1_ n2_
   (try clear hb)
   (try clear hb2)
   (try clear hk)
   (try clear hi)
   refine hK.out _ _ ⟨bcl BK678 0, bcl BK678 1, bcl BK678 2, bcl BK679 0, bcl BK679 1, bcl BK679 2, bcl BK679 3⟩ (fun hHeld => ?_)
   clear hK K
   refine norm_ (a' := ?_) ?_ ?_
   rotate_left
   ·show Act.put _ (some 17) _ = _
    simp only [Act.put, sA, sB, sC, i64_w, i32_w]
    rfl
   refine pure_ (i := 6) (N := some 11) (v := ?_) (a' := ?_) #[true, true, true, true, true, true, true, false, false, false, false] rfl rfl (any_of HT_.out (by kernel_rfl)) (fun _ _ _ h => h) (Or.inl ⟨by rfl, ?_⟩) ?_ ?_
   rotate_left
   ·intro w'
    go_simp
    with_reducible rfl
   rotate_left
   ·simp only [Act.put, sA, sB, sC, i64_w, i32_w]
    rfl
   refine pure_ (i := 7) (N := some 18) (v := ?_) (a' := ?_) #[true, true, true, true, true, true, true, true, false, false, false] rfl rfl (any_of HT_.out (by kernel_rfl)) (fun _ _ _ h => h) (Or.inl ⟨by rfl, ?_⟩) ?_ ?_
   rotate_left
   ·intro w'
    go_simp
    with_reducible rfl
   rotate_left
   ·simp only [Act.put, sA, sB, sC, i64_w, i32_w]
    rfl
   refine pure_ (i := 8) (N := some 19) (v := ?_) (a' := ?_) #[true, true, true, true, true, true, true, true, true, false, false] rfl rfl (any_of HT_.out (by kernel_rfl)) (fun _ _ _ h => h) (Or.inl ⟨by rfl, ?_⟩) ?_ ?_
   rotate_left
   ·intro w'
    go_simp
    with_reducible rfl
   rotate_left
   ·simp only [Act.put, sA, sB, sC, i64_w, i32_w]
    rfl
   refine pure_ (i := 9) (N := some 7) (v := ?_) (a' := ?_) #[true, true, true, true, true, true, true, true, true, true, false] rfl rfl (any_of HT_.out (by kernel_rfl)) (fun _ _ _ h => h) (Or.inl ⟨by rfl, ?_⟩) ?_ ?_
   rotate_left
   ·intro w'
    go_simp
    with_reducible rfl
   rotate_left
   ·simp only [Act.put, sA, sB, sC, i64_w, i32_w]
    rfl
   refine pure_ (i := 10) (N := some 8) (v := ?_) (a' := ?_) #[true, true, true, true, true, true, true, true, true, true, true] rfl rfl (any_of HT_.out (by kernel_rfl)) (fun _ _ _ h => h) (Or.inl ⟨by rfl, ?_⟩) ?_ ?_
   rotate_left
   ·intro w'
    go_simp
    with_reducible rfl
   rotate_left
   ·simp only [Act.put, sA, sB, sC, i64_w, i32_w]
    rfl
   refine done_ (done_of HT_.out (by kernel_rfl)) ?_
   try go_wp2
   have n0_ := Aside0.mk (blk_drew BK678.out)
   have n1_ := Aside0.mk (blk_drew BK679.out)
   have n2_ := Aside0.mk (below_drew1 HB.out)
   clear BK678
   clear BK679
   clear HB
   have BK678 := n0_
   have BK679 := n1_
   have HB := n2_
   clear n0_ n1_ n2_
   refine start_ (n := 11) (S := fun w' => w'.cell? ⟨gb678, 0, none⟩ = some (.int .i64 a1_0) ∧ w'.cell? ⟨gb678, 1, none⟩ = some (.int .i64 a1_1) ∧ w'.cell? ⟨gb678, 2, none⟩ = some (.int .i64 a1_2) ∧ w'.cell? ⟨gb679, 0, none⟩ = some (.int .i64 a2_0) ∧ w'.cell? ⟨gb679, 1, none⟩ = some (.int .i64 a2_1) ∧ w'.cell? ⟨gb679, 2, none⟩ = some (.int .i64 a2_2) ∧ w'.cell? ⟨gb679, 3, none⟩ = some (.int .i64 a2_3)) (ds := []) #[false, false, false, false, false, false, false, false, false, false, false] (by kernel_rfl) rfl rfl ⟨bcl BK678 0, bcl BK678 1, bcl BK678 2, bcl BK679 0, bcl BK679 1, bcl BK679 2, bcl BK679 3⟩ (fun hHeld => ?_); refine with_tabW laws_FnExactIsCentred.tab2 laws_FnExactIsCentred.bits2 (fun HT_ HW_ => ?_)
   generalize w17.drew = w18 at BK678 BK679 HB hHeld ⊢
   refine pure_ (i := 0) (N := some 21) (v := ?_) (a' := ?_) #[true, false, false, false, false, false, false, false, false, false, false] rfl rfl (any_of HT_.out (by kernel_rfl)) (fun _ _ _ h => h) (Or.inl ⟨by rfl, ?_⟩) ?_ ?_
   rotate_left
   ·intro w'
    go_simp
    with_reducible rfl
   rotate_left
   ·simp only [Act.put, sA, sB, sC, i64_w, i32_w]
    rfl
   refine take_ (i := 1) (N := some 22) (v := ?_) (a' := ?_) #[true, true, false, false, false, false, false, false, false, false, false] rfl rfl (take_ofW HT_.out HW_.out (by kernel_rfl)) (fun _ _ _ h => h) (Or.inl ⟨by rfl, ?_⟩) hHeld ?_ ?_
   rotate_left
   ·rintro w' ⟨s0, s1, s2, s3, s4, s5, s6⟩
    go_simp
    with_reducible rfl
   rotate_left
   ·simp only [Act.put, sA, sB, sC, i64_w, i32_w]
    rfl
   refine take_ (i := 3) (N := some 24) (v := ?_) (a' := ?_) #[true, true, false, true, false, false, false, false, false, false, false] rfl rfl (take_ofW HT_.out HW_.out (by kernel_rfl)) (fun _ _ _ h => h) (Or.inl ⟨by rfl, ?_⟩) hHeld ?_ ?_
   rotate_left
   ·rintro w' ⟨s0, s1, s2, s3, s4, s5, s6⟩
    go_simp
    with_reducible rfl
   rotate_left
   ·simp only [Act.put, sA, sB, sC, i64_w, i32_w]
    rfl
   refine one_ (i := 2) (N := some 23) #[true, true, true, true, false, false, false, false, false, false, false] rfl rfl (one_of HT_.out (by kernel_rfl)) (by decide) (fun K hK => ?_)
   refine goes_ Try.func12 (by kernel_rfl) rfl #[.agg #[.int .i64 a1_0, .int .i64 a1_1, .int .i64 a1_2]] (by rfl) rfl rfl (by (try simp only [List.map_toArray, List.map_cons, List.map_nil]); first | done | rfl | (simp only [List.length_drop, List.length_take]; rfl)) ?_
   with_reducible refine (laws_toLattice.calls a1_0 a1_1 a1_2 t689 t690 t691 _ A7.out).mono ?_
   rintro e w19 ⟨rfl, hb⟩
   refine ⟨_, rfl, ?_⟩
   have n0_ := Aside0.mk (bbl BK678 hb)
   have n1_ := Aside0.mk (bbl BK679 hb)
   have n2_ := Aside0.mk (bst2 HB GE678 GE679 hb)
   clear BK678
   clear BK679
   clear HB
   have BK678 := n0_
   have BK679 := n1_
   have HB := n2_
   clear n0_ n1_ n2_
   (try clear hb)
   (try clear hb2)
   (try clear hk)
   (try clear hi)
   refine hK.out _ _ ⟨bcl BK678 0, bcl BK678 1, bcl BK678 2, bcl BK679 0, bcl BK679 1, bcl BK679 2, bcl BK679 3⟩ (fun hHeld => ?_)
   clear hK K
   refine norm_ (a' := ?_) ?_ ?_
   rotate_left
   ·show Act.put _ (some 23) _ = _
    simp only [Act.put, sA, sB, sC, i64_w, i32_w]
    rfl
   refine one_ (i := 4) (N := some 25) #[true, true, true, true, true, false, false, false, false, false, false] rfl rfl (one_of HT_.out (by kernel_rfl)) (by decide) (fun K hK => ?_)
   refine goes_ Try.func24 (by kernel_rfl) rfl #[.agg #[.int .i64 a2_0, .int .i64 a2_1, .int .i64 a2_2, .int .i64 a2_3]] (by rfl) rfl rfl (by (try simp only [List.map_toArray, List.map_cons, List.map_nil]); first | done | rfl | (simp only [List.length_drop, List.length_take]; rfl)) ?_
   with_reducible refine (laws_toMat.calls a2_0 a2_1 a2_2 a2_3 t692 t693 t694 t695 _ A8.out).mono ?_
   rintro e w20 ⟨rfl, hb⟩
   refine ⟨_, rfl, ?_⟩
   have n0_ := Aside0.mk (bbl BK678 hb)
   have n1_ := Aside0.mk (bbl BK679 hb)
   have n2_ := Aside0.mk (bst2 HB GE678 GE679 hb)
   clear BK678
   clear BK679
   clear HB
   have BK678 := n0_
   have BK679 := n1_
   have HB := n2_
   clear n0_ n1_ n2_
   (try clear hb)
   (try clear hb2)
   (try clear hk)
   (try clear hi)
   refine hK.out _ _ ⟨bcl BK678 0, bcl BK678 1, bcl BK678 2, bcl BK679 0, bcl BK679 1, bcl BK679 2, bcl BK679 3⟩ (fun hHeld => ?_)
   clear hK K
   refine norm_ (a' := ?_) ?_ ?_
   rotate_left
   ·show Act.put _ (some 25) _ = _
    simp only [Act.put, sA, sB, sC, i64_w, i32_w]
    rfl
   refine one_ (i := 5) (N := some 26) #[true, true, true, true, true, true, false, false, false, false, false] rfl rfl (one_of HT_.out (by kernel_rfl)) (by decide) (fun K hK => ?_)
   refine goes_ Try.func28 (by kernel_rfl) rfl #[.int .i64 a0, .agg #[.int .i64 t689, .int .i64 t690, .int .i64 t691], .agg #[.int .i64 t692, .int .i64 t693, .int .i64 t694, .int .i64 t695]] (by rfl) rfl rfl (by (try simp only [List.map_toArray, List.map_cons, List.map_nil]); first | done | rfl | (simp only [List.length_drop, List.length_take]; rfl)) ?_
   with_reducible refine (impl_IsCentred.calls k a0 t689 t690 t691 t692 t693 t694 t695 t696 t697 _ A9.out).mono ?_
   rintro e w21 ⟨rfl, hb⟩
   refine ⟨_, rfl, ?_⟩
   have n0_ := Aside0.mk (bbl BK678 hb)
   have n1_ := Aside0.mk (bbl BK679 hb)
   have n2_ := Aside0.mk (bst2 HB GE678 GE679 hb)
   clear BK678
   clear BK679
   clear HB
   have BK678 := n0_
   have BK679 := n1_
   have HB := n2_
   clear n0_ n1_ n2_
   (try clear hb)
   (try clear hb2)
   (try clear hk)
   (try clear hi)
   refine hK.out _ _ ⟨bcl BK678 0, bcl BK678 1, bcl BK678 2, bcl BK679 0, bcl BK679 1, bcl BK679 2, bcl BK679 3⟩ (fun hHeld => ?_)
   clear hK K
   refine norm_ (a' := ?_) ?_ ?_
   rotate_left
   ·show Act.put _ (some 26) _ = _
    simp only [Act.put, sA, sB, sC, i64_w, i32_w]
    rfl
   refine pure_ (i := 6) (N := some 20) (v := ?_) (a' := ?_) #[true, true, true, true, true, true, true, false, false, false, false] rfl rfl (any_of HT_.out (by kernel_rfl)) (fun _ _ _ h => h) (Or.inl ⟨by rfl, ?_⟩) ?_ ?_
   rotate_left
   ·intro w'
    go_simp
    with_reducible rfl
   rotate_left
   ·simp only [Act.put, sA, sB, sC, i64_w, i32_w]
    rfl
   refine pure_ (i := 7) (N := some 27) (v := ?_) (a' := ?_) #[true, true, true, true, true, true, true, true, false, false, false] rfl rfl (any_of HT_.out (by kernel_rfl)) (fun _ _ _ h => h) (Or.inl ⟨by rfl, ?_⟩) ?_ ?_
   rotate_left
   ·intro w'
    go_simp
    with_reducible rfl
   rotate_left
   ·simp only [Act.put, sA, sB, sC, i64_w, i32_w]
    rfl
   refine pure_ (i := 8) (N := some 28) (v := ?_) (a' := ?_) #[true, true, true, true, true, true, true, true, true, false, false] rfl rfl (any_of HT_.out (by kernel_rfl)) (fun _ _ _ h => h) (Or.inl ⟨by rfl, ?_⟩) ?_ ?_
   rotate_left
   ·intro w'
    go_simp
    with_reducible rfl
   rotate_left
   ·simp only [Act.put, sA, sB, sC, i64_w, i32_w]
    rfl
   refine pure_ (i := 9) (N := some 9) (v := ?_) (a' := ?_) #[true, true, true, true, true, true, true, true, true, true, false] rfl rfl (any_of HT_.out (by kernel_rfl)) (fun _ _ _ h => h) (Or.inl ⟨by rfl, ?_⟩) ?_ ?_
   rotate_left
   ·intro w'
    go_simp
    with_reducible rfl
   rotate_left
   ·simp only [Act.put, sA, sB, sC, i64_w, i32_w]
    rfl
   refine pure_ (i := 10) (N := some 10) (v := ?_) (a' := ?_) #[true, true, true, true, true, true, true, true, true, true, true] rfl rfl (any_of HT_.out (by kernel_rfl)) (fun _ _ _ h => h) (Or.inl ⟨by rfl, ?_⟩) ?_ ?_
   rotate_left
   ·intro w'
    go_simp
    with_reducible rfl
   rotate_left
   ·simp only [Act.put, sA, sB, sC, i64_w, i32_w]
    rfl
   refine done_ (done_of HT_.out (by kernel_rfl)) ?_
   try go_wp2
   go_ret
   exact ⟨by first | rfl | (simp [errW_none, errW_some] <;> rfl) | (simp [*, errW_none, errW_some] <;> rfl), bbw2 HB GE678 GE679⟩
  ·rw [if_neg c11] at H
   have c11b0 : (t697 == t688) = false := beq_eq_false_iff_ne.mpr c11
   have c11b1 : (t697 != t688) = true := bne_iff_ne.mpr c11
   exact absurd H (by simp)

/-- The one plain statement of laws_FnExactIsCentred. -/
def laws_FnExactIsCentred.Pure : Prop := ∀ (a0 : Int) (a1_0 : Int) (a1_1 : Int) (a1_2 : Int) (a2_0 : Int) (a2_1 : Int) (a2_2 : Int) (a2_3 : Int), (Lit.int .i64 a0).wf = true → (Lit.int .i64 a1_0).wf = true → (Lit.int .i64 a1_1).wf = true → (Lit.int .i64 a1_2).wf = true → (Lit.int .i64 a2_0).wf = true → (Lit.int .i64 a2_1).wf = true → (Lit.int .i64 a2_2).wf = true → (Lit.int .i64 a2_3).wf = true → ∃ k, laws_FnExactIsCentred.f k a0 a1_0 a1_1 a1_2 a2_0 a2_1 a2_2 a2_3 = some true
end Go.Proofs.Ytndfnaehpdkaiaa.PA
