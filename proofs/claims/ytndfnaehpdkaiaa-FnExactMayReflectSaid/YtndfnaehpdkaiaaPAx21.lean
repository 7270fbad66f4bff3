/- Walks written by program: each Go function that the law reaches comes to the plain function beside it. -/
import Derived.Test.YtndfnaehpdkaiaaPAx0
import Derived.Test.YtndfnaehpdkaiaaPAx18
namespace Go.Proofs.Ytndfnaehpdkaiaa.PA
open Go.RowKit Go.Proofs.YtndfnaehpdkaiaaW.PrintWords Go.Proofs.YtndfnaehpdkaiaaW.PrintLast Go.Proofs.YtndfnaehpdkaiaaW.PrintMore
attribute [local go_sem] max2_int min2_int max_two min_two max_three min_three max_four min_four   -- for this text's walks alone
set_option linter.unusedVariables false
set_option linter.unusedSimpArgs false

/-! ### spec_l01Det: function 96 -/
def spec_l01Det.f (a0_0 : Int) (a0_1 : Int) (a1_0 : Int) (a1_1 : Int) : Option (Int) := some (wrap64 ((wrap64 (a0_0 * a1_1)) - (wrap64 (a0_1 * a1_0))))
set_option maxHeartbeats 8000000 in
set_option maxRecDepth 100000 in
theorem spec_l01Det.calls (a0_0 : Int) (a0_1 : Int) (a1_0 : Int) (a1_1 : Int) (r : Int) (w : World) (h : spec_l01Det.f a0_0 a0_1 a1_0 a1_1 = some r) :
  Calls Try.prog 96 #[.agg #[.int .i64 a0_0, .int .i64 a0_1], .agg #[.int .i64 a1_0, .int .i64 a1_1]] w fun e w' => e = .returned (.int .i64 r) ∧ Below w.heap.size w w' := by
 have hu34 := Try.underlying34
 have HB := Aside0.mk (Below.refl w.heap.size w)
 have H : (some (wrap64 ((wrap64 (a0_0 * a1_1)) - (wrap64 (a0_1 * a1_0))))) = some r := h
 clear h
 obtain rfl := Option.some.inj H
 go_enter Try.func96, Try.ntmps96
 go_wp2_with (first | ((with_reducible refine gate_dst (N := 2) rfl ?_); refine box_event ?hg (N := 2) ?hd (cs := #[.int .i64 a0_0, .int .i64 a0_1]) (t := 34) ?hr ?_; (case hd => rfl); (case hg => rfl); (case hr => first | (go_simp; done) | (go_simp; rfl)); intro gb640 hg w3 hbox hb; have n0_ := Aside0.mk (bst0 HB hb); have n1_ := Aside0.mk (hbox); have n2_ := ngw0 hg HB; have n3_ := n2_; clear HB; have HB := n0_; have BK640 := n1_; have GW640 := n2_; have GE640 := n3_; clear n0_ n1_ n2_ n3_; clear hb hbox hg) | ((with_reducible refine gate_dst (N := 3) rfl ?_); refine box_event ?hg (N := 3) ?hd (cs := #[.int .i64 a1_0, .int .i64 a1_1]) (t := 34) ?hr ?_; (case hd => rfl); (case hg => rfl); (case hr => first | (go_simp; done) | (go_simp; rfl)); intro gb641 hg w4 hbox hb; have n0_ := Aside0.mk (bbl BK640 hb); have n1_ := Aside0.mk (bst1 HB GE640 hb); have n2_ := Aside0.mk (hbox); have n3_ := ngw1 hg HB GE640; have n4_ := n3_; have n5_ := nlt hg BK640; have n6_ := nsy (nlt hg BK640); clear BK640; clear HB; have BK640 := n0_; have HB := n1_; have BK641 := n2_; have GW641 := n3_; have GE641 := n4_; have NB640_641 := n5_; have NB641_640 := n6_; clear n0_ n1_ n2_ n3_ n4_ n5_ n6_; clear hb hbox hg; have hnb5 := NB640_641.out; have hnc5 := NB641_640.out; have hcz6_0 : w4.cell? ⟨gb640, 0, none⟩ = some (.int .i64 a0_0) := bcl BK640 0; have hcz6_1 : w4.cell? ⟨gb640, 1, none⟩ = some (.int .i64 a0_1) := bcl BK640 1; have hfz6_0 := blk_frozen BK640.out 0; have hfz6_1 := blk_frozen BK640.out 1; have hcz7_0 : w4.cell? ⟨gb641, 0, none⟩ = some (.int .i64 a1_0) := bcl BK641 0; have hcz7_1 : w4.cell? ⟨gb641, 1, none⟩ = some (.int .i64 a1_1) := bcl BK641 1; have hfz7_0 := blk_frozen BK641.out 0; have hfz7_1 := blk_frozen BK641.out 1))
 go_ret
 exact ⟨by first | rfl | (simp [errW_none, errW_some] <;> rfl) | (simp [*, errW_none, errW_some] <;> rfl), bbw2 HB GE640 GE641⟩

/-! ### spec_l11Centred: function 56 -/
def spec_l11Centred.f (k : Nat) (a0_0 : Int) (a0_1 : Int) (a0_2 : Int) (a1_0 : Int) (a1_1 : Int) (a1_2 : Int) (a1_3 : Int) : Option (Bool) := (spec_l11Invariant.f k a0_0 a0_1 a0_2 a1_0 a1_1 a1_2 a1_3 1).bind fun bt644 => ((spec_l11Invariant.f k a0_0 a0_1 a0_2 a1_0 a1_1 a1_2 a1_3 (-1)).bind fun bt646 => ((spec_l01Det.f bt644.1 bt644.2 bt646.1 bt646.2).bind fun t648 => (some ((mx t648 (wrap64 (-t648))) != (wrap64 (a0_0 * a0_2))))))
def spec_l11Centred.T1 : Bool × List (List Nat × List Nat) := (true, [([], []), ([], []), ([0, 1], [0, 1]), ([], []), ([], []), ([3, 4, 2], [3, 4]), ([2, 5, 5], [2, 5]), ([6, 6, 0, 1, 2, 3, 4, 5, 6], [6])])
def spec_l11Centred.B1 : List Nat := [0, 0, 3, 0, 0, 31, 63, 127]
theorem spec_l11Centred.tab1 : rtab .any (opsOf Try.f56 1) = spec_l11Centred.T1 := by kernel_rfl
theorem spec_l11Centred.bits1 : waitsOk spec_l11Centred.T1.2 spec_l11Centred.B1 = true := by kernel_rfl
set_option maxHeartbeats 8000000 in
set_option maxRecDepth 100000 in
theorem spec_l11Centred.calls (k : Nat) (a0_0 : Int) (a0_1 : Int) (a0_2 : Int) (a1_0 : Int) (a1_1 : Int) (a1_2 : Int) (a1_3 : Int) (r : Bool) (w : World) (h : spec_l11Centred.f k a0_0 a0_1 a0_2 a1_0 a1_1 a1_2 a1_3 = some r) :
  Calls Try.prog 56 #[.agg #[.int .i64 a0_0, .int .i64 a0_1, .int .i64 a0_2], .agg #[.int .i64 a1_0, .int .i64 a1_1, .int .i64 a1_2, .int .i64 a1_3]] w fun e w' => e = .returned (.bool r) ∧ Below w.heap.size w w' := by
 have hu31 := Try.underlying31
 have hu33 := Try.underlying33
 have HB := Aside0.mk (Below.refl w.heap.size w)
 have H : ((spec_l11Invariant.f k a0_0 a0_1 a0_2 a1_0 a1_1 a1_2 a1_3 1).bind fun bt644 => ((spec_l11Invariant.f k a0_0 a0_1 a0_2 a1_0 a1_1 a1_2 a1_3 (-1)).bind fun bt646 => ((spec_l01Det.f bt644.1 bt644.2 bt646.1 bt646.2).bind fun t648 => (some ((mx t648 (wrap64 (-t648))) != (wrap64 (a0_0 * a0_2))))))) = some r := h
 clear h
 replace H := Option.bind_eq_some_iff.mp H
 obtain ⟨⟨t644, t645⟩, A30, H⟩ := H
 replace H : ((spec_l11Invariant.f k a0_0 a0_1 a0_2 a1_0 a1_1 a1_2 a1_3 (-1)).bind fun bt646 => ((spec_l01Det.f t644 t645 bt646.1 bt646.2).bind fun t648 => (some ((mx t648 (wrap64 (-t648))) != (wrap64 (a0_0 * a0_2)))))) = some r := H
 have A3 := Aside0.mk A30
 clear A30
 replace H := Option.bind_eq_some_iff.mp H
 obtain ⟨⟨t646, t647⟩, A40, H⟩ := H
 replace H : ((spec_l01Det.f t644 t645 t646 t647).bind fun t648 => (some ((mx t648 (wrap64 (-t648))) != (wrap64 (a0_0 * a0_2))))) = some r := H
 have A4 := Aside0.mk A40
 clear A40
 replace H := Option.bind_eq_some_iff.mp H
 obtain ⟨t648, A50, H⟩ := H
 replace H : (some ((mx t648 (wrap64 (-t648))) != (wrap64 (a0_0 * a0_2)))) = some r := H
 have A5 := Aside0.mk A50
 clear A50
 obtain ⟨ji6, hji6⟩ : ∃ j_ : Int, (mx t648 (wrap64 (-t648))) = j_ := ⟨_, rfl⟩
 replace H : (some ((ji6) != (wrap64 (a0_0 * a0_2)))) = some r := by first | (rw [hji6] at H; first | done | exact H) | (simp only [hji6] at H ⊢; exact H)
 (try rw [hji6] at A3)
 (try rw [hji6] at A4)
 (try rw [hji6] at A5)
 have hji6_ : (if t648 < (wrap64 (-t648)) then (wrap64 (-t648)) else t648) = ji6 := hji6
 obtain rfl := Option.some.inj H
 go_enter Try.func56, Try.ntmps56
 try go_wp2_with (first | ((with_reducible refine gate_dst (N := 2) rfl ?_); refine box_event ?hg (N := 2) ?hd (cs := #[.int .i64 a0_0, .int .i64 a0_1, .int .i64 a0_2]) (t := 31) ?hr ?_; (case hd => rfl); (case hg => rfl); (case hr => first | (go_simp; done) | (go_simp; rfl)); intro gb642 hg w7 hbox hb; have n0_ := Aside0.mk (bst0 HB hb); have n1_ := Aside0.mk (hbox); have n2_ := ngw0 hg HB; have n3_ := n2_; clear HB; have HB := n0_; have BK642 := n1_; have GW642 := n2_; have GE642 := n3_; clear n0_ n1_ n2_ n3_; clear hb hbox hg) | ((with_reducible refine gate_dst (N := 3) rfl ?_); refine box_event ?hg (N := 3) ?hd (cs := #[.int .i64 a1_0, .int .i64 a1_1, .int .i64 a1_2, .int .i64 a1_3]) (t := 33) ?hr ?_; (case hd => rfl); (case hg => rfl); (case hr => first | (go_simp; done) | (go_simp; rfl)); intro gb643 hg w8 hbox hb; have n0_ := Aside0.mk (bbl BK642 hb); have n1_ := Aside0.mk (bst1 HB GE642 hb); have n2_ := Aside0.mk (hbox); have n3_ := ngw1 hg HB GE642; have n4_ := n3_; have n5_ := nlt hg BK642; have n6_ := nsy (nlt hg BK642); clear BK642; clear HB; have BK642 := n0_; have HB := n1_; have BK643 := n2_; have GW643 := n3_; have GE643 := n4_; have NB642_643 := n5_; have NB643_642 := n6_; clear n0_ n1_ n2_ n3_ n4_ n5_ n6_; clear hb hbox hg))
 have n0_ := Aside0.mk (blk_drew BK642.out)
 have n1_ := Aside0.mk (blk_drew BK643.out)
 have n2_ := Aside0.mk (below_drew1 HB.out)
 clear BK642
 clear BK643
 clear HB
 have BK642 := n0_
 have BK643 := n1_
 have HB := n2_
 clear n0_ n1_ n2_
 refine start_ (n := 8) (S := fun w' => w'.cell? ⟨gb642, 0, none⟩ = some (.int .i64 a0_0) ∧ w'.cell? ⟨gb642, 1, none⟩ = some (.int .i64 a0_1) ∧ w'.cell? ⟨gb642, 2, none⟩ = some (.int .i64 a0_2) ∧ w'.cell? ⟨gb643, 0, none⟩ = some (.int .i64 a1_0) ∧ w'.cell? ⟨gb643, 1, none⟩ = some (.int .i64 a1_1) ∧ w'.cell? ⟨gb643, 2, none⟩ = some (.int .i64 a1_2) ∧ w'.cell? ⟨gb643, 3, none⟩ = some (.int .i64 a1_3)) (ds := []) #[false, false, false, false, false, false, false, false] (by kernel_rfl) rfl rfl ⟨bcl BK642 0, bcl BK642 1, bcl BK642 2, bcl BK643 0, bcl BK643 1, bcl BK643 2, bcl BK643 3⟩ (fun hHeld => ?_); refine with_tabW spec_l11Centred.tab1 spec_l11Centred.bits1 (fun HT_ HW_ => ?_)
 generalize w8.drew = w9 at BK642 BK643 HB hHeld ⊢
 refine take_ (i := 0) (N := some 6) (v := ?_) (a' := ?_) #[true, false, false, false, false, false, false, false] rfl rfl (take_ofW HT_.out HW_.out (by kernel_rfl)) (fun _ _ _ h => h) (Or.inl ⟨by rfl, ?_⟩) hHeld ?_ ?_
 rotate_left
 ·rintro w' ⟨s0, s1, s2, s3, s4, s5, s6⟩
  go_simp
  with_reducible rfl
 rotate_left
 ·simp only [Act.put, sA, sB, sC, i64_w, i32_w]
  rfl
 refine take_ (i := 1) (N := some 7) (v := ?_) (a' := ?_) #[true, true, false, false, false, false, false, false] rfl rfl (take_ofW HT_.out HW_.out (by kernel_rfl)) (fun _ _ _ h => h) (Or.inl ⟨by rfl, ?_⟩) hHeld ?_ ?_
 rotate_left
 ·rintro w' ⟨s0, s1, s2, s3, s4, s5, s6⟩
  go_simp
  with_reducible rfl
 rotate_left
 ·simp only [Act.put, sA, sB, sC, i64_w, i32_w]
  rfl
 refine take_ (i := 3) (N := some 9) (v := ?_) (a' := ?_) #[true, true, false, true, false, false, false, false] rfl rfl (take_ofW HT_.out HW_.out (by kernel_rfl)) (fun _ _ _ h => h) (Or.inl ⟨by rfl, ?_⟩) hHeld ?_ ?_
 rotate_left
 ·rintro w' ⟨s0, s1, s2, s3, s4, s5, s6⟩
  go_simp
  with_reducible rfl
 rotate_left
 ·simp only [Act.put, sA, sB, sC, i64_w, i32_w]
  rfl
 refine take_ (i := 4) (N := some 10) (v := ?_) (a' := ?_) #[true, true, false, true, true, false, false, false] rfl rfl (take_ofW HT_.out HW_.out (by kernel_rfl)) (fun _ _ _ h => h) (Or.inl ⟨by rfl, ?_⟩) hHeld ?_ ?_
 rotate_left
 ·rintro w' ⟨s0, s1, s2, s3, s4, s5, s6⟩
  go_simp
  with_reducible rfl
 rotate_left
 ·simp only [Act.put, sA, sB, sC, i64_w, i32_w]
  rfl
 refine one_ (i := 2) (N := some 8) #[true, true, true, true, true, false, false, false] rfl rfl (one_of HT_.out (by kernel_rfl)) (by decide) (fun K hK => ?_)
 refine goes_ Try.func52 (by kernel_rfl) rfl #[.agg #[.int .i64 a0_0, .int .i64 a0_1, .int .i64 a0_2], .agg #[.int .i64 a1_0, .int .i64 a1_1, .int .i64 a1_2, .int .i64 a1_3], .int .i64 1] (by rfl) rfl rfl (by (try simp only [List.map_toArray, List.map_cons, List.map_nil]); first | done | rfl | (simp only [List.length_drop, List.length_take]; rfl)) ?_
 with_reducible refine (spec_l11Invariant.calls k a0_0 a0_1 a0_2 a1_0 a1_1 a1_2 a1_3 1 t644 t645 _ A3.out).mono ?_
 rintro e w10 ⟨rfl, hb⟩
 refine ⟨_, rfl, ?_⟩
 have n0_ := Aside0.mk (bbl BK642 hb)
 have n1_ := Aside0.mk (bbl BK643 hb)
 have n2_ := Aside0.mk (bst2 HB GE642 GE643 hb)
 clear BK642
 clear BK643
 clear HB
 have BK642 := n0_
 have BK643 := n1_
 have HB := n2_
 clear n0_ n1_ n2_
 (try clear hb)
 (try clear hb2)
 (try clear hk)
 (try clear hi)
 refine hK.out _ _ ⟨bcl BK642 0, bcl BK642 1, bcl BK642 2, bcl BK643 0, bcl BK643 1, bcl BK643 2, bcl BK643 3⟩ (fun hHeld => ?_)
 clear hK K
 refine norm_ (a' := ?_) ?_ ?_
 rotate_left
 ·show Act.put _ (some 8) _ = _
  simp only [Act.put, sA, sB, sC, i64_w, i32_w]
  rfl
 refine one_ (i := 5) (N := some 11) #[true, true, true, true, true, true, false, false] rfl rfl (one_of HT_.out (by kernel_rfl)) (by decide) (fun K hK => ?_)
 refine goes_ Try.func52 (by kernel_rfl) rfl #[.agg #[.int .i64 a0_0, .int .i64 a0_1, .int .i64 a0_2], .agg #[.int .i64 a1_0, .int .i64 a1_1, .int .i64 a1_2, .int .i64 a1_3], .int .i64 (-1)] (by rfl) rfl rfl (by (try simp only [List.map_toArray, List.map_cons, List.map_nil]); first | done | rfl | (simp only [List.length_drop, List.length_take]; rfl)) ?_
 with_reducible refine (spec_l11Invariant.calls k a0_0 a0_1 a0_2 a1_0 a1_1 a1_2 a1_3 (-1) t646 t647 _ A4.out).mono ?_
 rintro e w11 ⟨rfl, hb⟩
 refine ⟨_, rfl, ?_⟩
 have n0_ := Aside0.mk (bbl BK642 hb)
 have n1_ := Aside0.mk (bbl BK643 hb)
 have n2_ := Aside0.mk (bst2 HB GE642 GE643 hb)
 clear BK642
 clear BK643
 clear HB
 have BK642 := n0_
 have BK643 := n1_
 have HB := n2_
 clear n0_ n1_ n2_
 (try clear hb)
 (try clear hb2)
 (try clear hk)
 (try clear hi)
 refine hK.out _ _ ⟨bcl BK642 0, bcl BK642 1, bcl BK642 2, bcl BK643 0, bcl BK643 1, bcl BK643 2, bcl BK643 3⟩ (fun hHeld => ?_)
 clear hK K
 refine norm_ (a' := ?_) ?_ ?_
 rotate_left
 ·show Act.put _ (some 11) _ = _
  simp only [Act.put, sA, sB, sC, i64_w, i32_w]
  rfl
 refine one_ (i := 6) (N := some 12) #[true, true, true, true, true, true, true, false] rfl rfl (one_of HT_.out (by kernel_rfl)) (by decide) (fun K hK => ?_)
 refine goes_ Try.func96 (by kernel_rfl) rfl #[.agg #[.int .i64 t644, .int .i64 t645], .agg #[.int .i64 t646, .int .i64 t647]] (by rfl) rfl rfl (by (try simp only [List.map_toArray, List.map_cons, List.map_nil]); first | done | rfl | (simp only [List.length_drop, List.length_take]; rfl)) ?_
 with_reducible refine (spec_l01Det.calls t644 t645 t646 t647 t648 _ A5.out).mono ?_
 rintro e w12 ⟨rfl, hb⟩
 refine ⟨_, rfl, ?_⟩
 have n0_ := Aside0.mk (bbl BK642 hb)
 have n1_ := Aside0.mk (bbl BK643 hb)
 have n2_ := Aside0.mk (bst2 HB GE642 GE643 hb)
 clear BK642
 clear BK643
 clear HB
 have BK642 := n0_
 have BK643 := n1_
 have HB := n2_
 clear n0_ n1_ n2_
 (try clear hb)
 (try clear hb2)
 (try clear hk)
 (try clear hi)
 refine hK.out _ _ ⟨bcl BK642 0, bcl BK642 1, bcl BK642 2, bcl BK643 0, bcl BK643 1, bcl BK643 2, bcl BK643 3⟩ (fun hHeld => ?_)
 clear hK K
 refine norm_ (a' := ?_) ?_ ?_
 rotate_left
 ·show Act.put _ (some 12) _ = _
  simp only [Act.put, sA, sB, sC, i64_w, i32_w]
  rfl
 refine pure_ (i := 7) (N := some 5) (v := ?_) (a' := ?_) #[true, true, true, true, true, true, true, true] rfl rfl (any_of HT_.out (by kernel_rfl)) (fun _ _ _ h => h) (Or.inl ⟨by rfl, ?_⟩) ?_ ?_
 rotate_left
 ·intro w'
  go_simp
  with_reducible rfl
 rotate_left
 ·simp only [Act.put, sA, sB, sC, i64_w, i32_w]
  rfl
 refine done_ (done_of HT_.out (by kernel_rfl)) ?_
 have hnb13 := NB642_643.out
 have hnc13 := NB643_642.out
 have hcz14_0 : w12.cell? ⟨gb642, 0, none⟩ = some (.int .i64 a0_0) := bcl BK642 0
 have hcz14_1 : w12.cell? ⟨gb642, 1, none⟩ = some (.int .i64 a0_1) := bcl BK642 1
 have hcz14_2 : w12.cell? ⟨gb642, 2, none⟩ = some (.int .i64 a0_2) := bcl BK642 2
 have hfz14_0 := blk_frozen BK642.out 0
 have hfz14_1 := blk_frozen BK642.out 1
 have hfz14_2 := blk_frozen BK642.out 2
 try go_wp2
 go_ret
 exact ⟨by first | rfl | (simp [errW_none, errW_some] <;> rfl) | (simp only [← hji6]; first | rfl | (simp [errW_none, errW_some] <;> rfl)) | (simp [*, errW_none, errW_some] <;> rfl), bbw2 HB GE642 GE643⟩
end Go.Proofs.Ytndfnaehpdkaiaa.PA
