/- Walks written by program: each Go function that the law reaches comes to the plain function beside it. -/
import Derived.Test.YtndfnaehpdkaiaaPAx0
import Derived.Test.YtndfnaehpdkaiaaPAx4
import Derived.Test.YtndfnaehpdkaiaaPAx5
import Derived.Test.YtndfnaehpdkaiaaPAx6
import Derived.Test.YtndfnaehpdkaiaaPAx10
import Derived.Test.YtndfnaehpdkaiaaPAx18
import Derived.Test.YtndfnaehpdkaiaaPAx20
import Derived.Test.YtndfnaehpdkaiaaPAx21
namespace Go.Proofs.Ytndfnaehpdkaiaa.PA
open Go.RowKit Go.Proofs.YtndfnaehpdkaiaaW.PrintWords Go.Proofs.YtndfnaehpdkaiaaW.PrintLast Go.Proofs.YtndfnaehpdkaiaaW.PrintMore
attribute [local go_sem] max2_int min2_int max_two min_two max_three min_three max_four min_four   -- for this text's walks alone
set_option linter.unusedVariables false
set_option linter.unusedSimpArgs false

/-! ### spec_l05Twice: function 100 -/
def spec_l05Twice.f (a0_0 : Int) (a0_1 : Int) (a0_2 : Int) (a0_3 : Int) (a0_4 : Int) (a0_5 : Int) : Option (Int × Int) := (spec_l02Apply.f a0_0 a0_1 a0_2 a0_3 a0_4 a0_5).bind fun bt700 => ((spec_l01Add.f bt700.1 bt700.2 a0_4 a0_5).bind fun bt702 => (some (bt702.1, bt702.2)))
def spec_l05Twice.T1 : Bool × List (List Nat × List Nat) := (true, [([], []), ([0], [0]), ([], []), ([2], [2]), ([1, 3], [1, 3]), ([], []), ([5], [5]), ([4, 6, 4], [4, 6]), ([7, 7, 0, 1, 2, 3, 4, 5, 6, 7], [7])])
def spec_l05Twice.B1 : List Nat := [0, 1, 0, 4, 15, 0, 32, 127, 255]
theorem spec_l05Twice.tab1 : rtab .any (opsOf Try.f100 1) = spec_l05Twice.T1 := by kernel_rfl
theorem spec_l05Twice.bits1 : waitsOk spec_l05Twice.T1.2 spec_l05Twice.B1 = true := by kernel_rfl
set_option maxHeartbeats 8000000 in
set_option maxRecDepth 100000 in
theorem spec_l05Twice.calls (a0_0 : Int) (a0_1 : Int) (a0_2 : Int) (a0_3 : Int) (a0_4 : Int) (a0_5 : Int) (r1 : Int) (r2 : Int) (w : World) (h : spec_l05Twice.f a0_0 a0_1 a0_2 a0_3 a0_4 a0_5 = some (r1, r2)) :
  Calls Try.prog 100 #[.agg #[.int .i64 a0_0, .int .i64 a0_1, .int .i64 a0_2, .int .i64 a0_3, .int .i64 a0_4, .int .i64 a0_5]] w fun e w' => e = .returned (.agg #[.int .i64 r1, .int .i64 r2]) ∧ Below w.heap.size w w' := by
 have hu36 := Try.underlying36
 have hu34 := Try.underlying34
 have hu33 := Try.underlying33
 have HB := Aside0.mk (Below.refl w.heap.size w)
 have H : ((spec_l02Apply.f a0_0 a0_1 a0_2 a0_3 a0_4 a0_5).bind fun bt700 => ((spec_l01Add.f bt700.1 bt700.2 a0_4 a0_5).bind fun bt702 => (some (bt702.1, bt702.2)))) = some (r1, r2) := h
 clear h
 replace H := Option.bind_eq_some_iff.mp H
 obtain ⟨⟨t700, t701⟩, A20, H⟩ := H
 replace H : ((spec_l01Add.f t700 t701 a0_4 a0_5).bind fun bt702 => (some (bt702.1, bt702.2))) = some (r1, r2) := H
 have A2 := Aside0.mk A20
 clear A20
 replace H := Option.bind_eq_some_iff.mp H
 obtain ⟨⟨t702, t703⟩, A30, H⟩ := H
 replace H : (some (t702, t703)) = some (r1, r2) := H
 have A3 := Aside0.mk A30
 clear A30
 simp only [Option.some.injEq, Prod.mk.injEq] at H
 obtain ⟨rfl, rfl⟩ := H
 go_enter Try.func100, Try.ntmps100
 try go_wp2_with (first | ((with_reducible refine gate_dst (N := 1) rfl ?_); refine box_event ?hg (N := 1) ?hd (cs := #[.int .i64 a0_0, .int .i64 a0_1, .int .i64 a0_2, .int .i64 a0_3, .int .i64 a0_4, .int .i64 a0_5]) (t := 36) ?hr ?_; (case hd => rfl); (case hg => rfl); (case hr => first | (go_simp; done) | (go_simp; rfl)); intro gb698 hg w4 hbox hb; have n0_ := Aside0.mk (bst0 HB hb); have n1_ := Aside0.mk (hbox); have n2_ := ngw0 hg HB; have n3_ := n2_; clear HB; have HB := n0_; have BK698 := n1_; have GW698 := n2_; have GE698 := n3_; clear n0_ n1_ n2_ n3_; clear hb hbox hg) | ((with_reducible refine gate_dst (N := 2) rfl ?_); refine box_event ?hg (N := 2) ?hd (cs := #[.int .i64 0, .int .i64 0]) (t := 34) ?hr ?_; (case hd => rfl); (case hg => rfl); (case hr => first | (go_simp; done) | (go_simp; rfl)); intro gb699 hg w5 hbox hb; have n0_ := Aside0.mk (bbl BK698 hb); have n1_ := Aside0.mk (bst1 HB GE698 hb); have n2_ := Aside0.mk (hbox); have n3_ := ngw1 hg HB GE698; have n4_ := n3_; have n5_ := nlt hg BK698; have n6_ := nsy (nlt hg BK698); clear BK698; clear HB; have BK698 := n0_; have HB := n1_; have BK699 := n2_; have GW699 := n3_; have GE699 := n4_; have NB698_699 := n5_; have NB699_698 := n6_; clear n0_ n1_ n2_ n3_ n4_ n5_ n6_; clear hb hbox hg))
 have n0_ := Aside0.mk (blk_drew BK698.out)
 have n1_ := Aside0.mk (blk_drew BK699.out)
 have n2_ := Aside0.mk (below_drew1 HB.out)
 clear BK698
 clear BK699
 clear HB
 have BK698 := n0_
 have BK699 := n1_
 have HB := n2_
 clear n0_ n1_ n2_
 refine start_ (n := 9) (S := fun w' => w'.cell? ⟨gb698, 0, none⟩ = some (.int .i64 a0_0) ∧ w'.cell? ⟨gb698, 1, none⟩ = some (.int .i64 a0_1) ∧ w'.cell? ⟨gb698, 2, none⟩ = some (.int .i64 a0_2) ∧ w'.cell? ⟨gb698, 3, none⟩ = some (.int .i64 a0_3) ∧ w'.cell? ⟨gb698, 4, none⟩ = some (.int .i64 a0_4) ∧ w'.cell? ⟨gb698, 5, none⟩ = some (.int .i64 a0_5)) (ds := []) #[false, false, false, false, false, false, false, false, false] (by kernel_rfl) rfl rfl ⟨bcl BK698 0, bcl BK698 1, bcl BK698 2, bcl BK698 3, bcl BK698 4, bcl BK698 5⟩ (fun hHeld => ?_); refine with_tabW spec_l05Twice.tab1 spec_l05Twice.bits1 (fun HT_ HW_ => ?_)
 generalize w5.drew = w6 at BK698 BK699 HB hHeld ⊢
 refine pure_ (i := 0) (N := some 3) (v := ?_) (a' := ?_) #[true, false, false, false, false, false, false, false, false] rfl rfl (any_of HT_.out (by kernel_rfl)) (fun _ _ _ h => h) (Or.inl ⟨by rfl, ?_⟩) ?_ ?_
 rotate_left
 ·intro w'
  go_simp
  with_reducible rfl
 rotate_left
 ·simp only [Act.put, sA, sB, sC, i64_w, i32_w]
  rfl
 refine pure_ (i := 2) (N := some 5) (v := ?_) (a' := ?_) #[true, false, true, false, false, false, false, false, false] rfl rfl (any_of HT_.out (by kernel_rfl)) (fun _ _ _ h => h) (Or.inl ⟨by rfl, ?_⟩) ?_ ?_
 rotate_left
 ·intro w'
  go_simp
  with_reducible rfl
 rotate_left
 ·simp only [Act.put, sA, sB, sC, i64_w, i32_w]
  rfl
 refine pure_ (i := 5) (N := some 8) (v := ?_) (a' := ?_) #[true, false, true, false, false, true, false, false, false] rfl rfl (any_of HT_.out (by kernel_rfl)) (fun _ _ _ h => h) (Or.inl ⟨by rfl, ?_⟩) ?_ ?_
 rotate_left
 ·intro w'
  go_simp
  with_reducible rfl
 rotate_left
 ·simp only [Act.put, sA, sB, sC, i64_w, i32_w]
  rfl
 refine take_ (i := 1) (N := some 4) (v := ?_) (a' := ?_) #[true, true, true, false, false, true, false, false, false] rfl rfl (take_ofW HT_.out HW_.out (by kernel_rfl)) (fun _ _ _ h => h) (Or.inl ⟨by rfl, ?_⟩) hHeld ?_ ?_
 rotate_left
 ·rintro w' ⟨s0, s1, s2, s3, s4, s5⟩
  go_simp
  with_reducible rfl
 rotate_left
 ·simp only [Act.put, sA, sB, sC, i64_w, i32_w]
  rfl
 refine take_ (i := 3) (N := some 6) (v := ?_) (a' := ?_) #[true, true, true, true, false, true, false, false, false] rfl rfl (take_ofW HT_.out HW_.out (by kernel_rfl)) (fun _ _ _ h => h) (Or.inl ⟨by rfl, ?_⟩) hHeld ?_ ?_
 rotate_left
 ·rintro w' ⟨s0, s1, s2, s3, s4, s5⟩
  go_simp
  with_reducible rfl
 rotate_left
 ·simp only [Act.put, sA, sB, sC, i64_w, i32_w]
  rfl
 refine take_ (i := 6) (N := some 9) (v := ?_) (a' := ?_) #[true, true, true, true, false, true, true, false, false] rfl rfl (take_ofW HT_.out HW_.out (by kernel_rfl)) (fun _ _ _ h => h) (Or.inl ⟨by rfl, ?_⟩) hHeld ?_ ?_
 rotate_left
 ·rintro w' ⟨s0, s1, s2, s3, s4, s5⟩
  go_simp
  with_reducible rfl
 rotate_left
 ·simp only [Act.put, sA, sB, sC, i64_w, i32_w]
  rfl
 refine one_ (i := 4) (N := some 7) #[true, true, true, true, true, true, true, false, false] rfl rfl (one_of HT_.out (by kernel_rfl)) (by decide) (fun K hK => ?_)
 refine goes_ Try.func78 (by kernel_rfl) rfl #[.agg #[.int .i64 a0_0, .int .i64 a0_1, .int .i64 a0_2, .int .i64 a0_3], .agg #[.int .i64 a0_4, .int .i64 a0_5]] (by rfl) rfl rfl (by (try simp only [List.map_toArray, List.map_cons, List.map_nil]); first | done | rfl | (simp only [List.length_drop, List.length_take]; rfl)) ?_
 with_reducible refine (spec_l02Apply.calls a0_0 a0_1 a0_2 a0_3 a0_4 a0_5 t700 t701 _ A2.out).mono ?_
 rintro e w7 ⟨rfl, hb⟩
 refine ⟨_, rfl, ?_⟩
 have n0_ := Aside0.mk (bbl BK698 hb)
 have n1_ := Aside0.mk (bbl BK699 hb)
 have n2_ := Aside0.mk (bst2 HB GE698 GE699 hb)
 clear BK698
 clear BK699
 clear HB
 have BK698 := n0_
 have BK699 := n1_
 have HB := n2_
 clear n0_ n1_ n2_
 (try clear hb)
 (try clear hb2)
 (try clear hk)
 (try clear hi)
 refine hK.out _ _ ⟨bcl BK698 0, bcl BK698 1, bcl BK698 2, bcl BK698 3, bcl BK698 4, bcl BK698 5⟩ (fun hHeld => ?_)
 clear hK K
 refine norm_ (a' := ?_) ?_ ?_
 rotate_left
 ·show Act.put _ (some 7) _ = _
  simp only [Act.put, sA, sB, sC, i64_w, i32_w]
  rfl
 refine one_ (i := 7) (N := some 10) #[true, true, true, true, true, true, true, true, false] rfl rfl (one_of HT_.out (by kernel_rfl)) (by decide) (fun K hK => ?_)
 refine goes_ Try.func111 (by kernel_rfl) rfl #[.agg #[.int .i64 t700, .int .i64 t701], .agg #[.int .i64 a0_4, .int .i64 a0_5]] (by rfl) rfl rfl (by (try simp only [List.map_toArray, List.map_cons, List.map_nil]); first | done | rfl | (simp only [List.length_drop, List.length_take]; rfl)) ?_
 with_reducible refine (spec_l01Add.calls t700 t701 a0_4 a0_5 t702 t703 _ A3.out).mono ?_
 rintro e w8 ⟨rfl, hb⟩
 refine ⟨_, rfl, ?_⟩
 have n0_ := Aside0.mk (bbl BK698 hb)
 have n1_ := Aside0.mk (bbl BK699 hb)
 have n2_ := Aside0.mk (bst2 HB GE698 GE699 hb)
 clear BK698
 clear BK699
 clear HB
 have BK698 := n0_
 have BK699 := n1_
 have HB := n2_
 clear n0_ n1_ n2_
 (try clear hb)
 (try clear hb2)
 (try clear hk)
 (try clear hi)
 refine hK.out _ _ ⟨bcl BK698 0, bcl BK698 1, bcl BK698 2, bcl BK698 3, bcl BK698 4, bcl BK698 5⟩ (fun hHeld => ?_)
 clear hK K
 refine norm_ (a' := ?_) ?_ ?_
 rotate_left
 ·show Act.put _ (some 10) _ = _
  simp only [Act.put, sA, sB, sC, i64_w, i32_w]
  rfl
 refine one_ (i := 8) (N := none) #[true, true, true, true, true, true, true, true, true] rfl rfl (one_of HT_.out (by kernel_rfl)) (by decide) (fun K hK => ?_)
 have hs9 : w8.cell? ⟨gb699, 0, none⟩ = some (.int .i64 0) := bcl BK699 0
 have hfs9 := blk_frozen BK699.out 0
 have hns9_0 := NB698_699.out
 have hms9_0 := NB699_698.out
 have hs10 : w8.cell? ⟨gb699, 1, none⟩ = some (.int .i64 0) := bcl BK699 1
 have hfs10 := blk_frozen BK699.out 1
 have hns10_0 := NB698_699.out
 have hms10_0 := NB699_698.out
 refine skip_ (w1 := ?_) (by rfl) rfl ?_ ?_
 rotate_left
 ·go_simp
  rfl
 refine hK.out _ _ ⟨((cell_far (p := ⟨gb699, _, none⟩) NB698_699.out _).trans (((cell_far (p := ⟨gb699, _, none⟩) NB698_699.out _).trans (hHeld.1)))), ((cell_far (p := ⟨gb699, _, none⟩) NB698_699.out _).trans (((cell_far (p := ⟨gb699, _, none⟩) NB698_699.out _).trans (hHeld.2.1)))), ((cell_far (p := ⟨gb699, _, none⟩) NB698_699.out _).trans (((cell_far (p := ⟨gb699, _, none⟩) NB698_699.out _).trans (hHeld.2.2.1)))), ((cell_far (p := ⟨gb699, _, none⟩) NB698_699.out _).trans (((cell_far (p := ⟨gb699, _, none⟩) NB698_699.out _).trans (hHeld.2.2.2.1)))), ((cell_far (p := ⟨gb699, _, none⟩) NB698_699.out _).trans (((cell_far (p := ⟨gb699, _, none⟩) NB698_699.out _).trans (hHeld.2.2.2.2.1)))), ((cell_far (p := ⟨gb699, _, none⟩) NB698_699.out _).trans (((cell_far (p := ⟨gb699, _, none⟩) NB698_699.out _).trans (hHeld.2.2.2.2.2))))⟩ (fun hHeld => ?_)
 clear hK K
 refine done_ (done_of HT_.out (by kernel_rfl)) ?_
 try go_wp2
 refine bodyPost_ret (results_cell_row rfl _ _ gb699 34 #[.int .i64 t702, .int .i64 t703] (0, 0) _ rfl (by (with_reducible repeat (first | refine blk_drewN ?_ _ | refine blk_drew ?_ | refine blk_alloc ?_ _)); refine blk_put (cs := #[.int .i64 t702, .int .i64 0]) ?_ 1 _ rfl; (with_reducible repeat (first | refine blk_drewN ?_ _ | refine blk_drew ?_ | refine blk_alloc ?_ _)); refine blk_put (cs := #[.int .i64 0, .int .i64 0]) ?_ 0 _ rfl; (with_reducible repeat (first | refine blk_drewN ?_ _ | refine blk_drew ?_ | refine blk_alloc ?_ _)); exact BK699.out) Try.underlying34 rfl (by kernel_rfl)) rfl ?_
 exact ⟨by first | rfl | (simp [errW_none, errW_some] <;> rfl) | (simp [*, errW_none, errW_some] <;> rfl), bbw2 HB GE698 GE699⟩

/-! ### spec_l11Reflects: function 59 -/
def spec_l11Reflects.j0 : Nat → Int → Int → Int → Int → Int → Int → Int → Int → Option (Bool)
 | 0, _, _, _, _, _, _, _, _ => none
 | k + 1, x706000, x706001, x706002, x706003, x706004, x706005, x709000, x709001 => (spec_l05Twice.f x706000 x706001 x706002 x706003 x706004 x706005).bind fun bt712 => ((spec_l01Divisor.f k x709000 x709001).bind fun t715 => ((spec_l01Divisor.f k bt712.1 bt712.2).bind fun t716 => ((spec_l01Mod.f t716 t715).bind fun t717 => (some (t717 == 0)))))
def spec_l11Reflects.f (k : Nat) (a0_0 : Int) (a0_1 : Int) (a0_2 : Int) (a1_0 : Int) (a1_1 : Int) (a1_2 : Int) (a1_3 : Int) (a1_4 : Int) (a1_5 : Int) : Option (Bool) := (spec_l11Invariant.f k a0_0 a0_1 a0_2 a1_0 a1_1 a1_2 a1_3 1).bind fun bt706 => ((spec_l11Centred.f k a0_0 a0_1 a0_2 a1_0 a1_1 a1_2 a1_3).bind fun t709 => (if t709 = true then (spec_l11Reflects.j0 k a1_0 a1_1 a1_2 a1_3 a1_4 a1_5 bt706.1 bt706.2) else ((spec_l01Scale.f bt706.1 bt706.2 2).bind fun bt710 => (spec_l11Reflects.j0 k a1_0 a1_1 a1_2 a1_3 a1_4 a1_5 bt710.1 bt710.2))))
set_option maxHeartbeats 8000000 in
set_option maxRecDepth 100000 in
theorem spec_l11Reflects.calls (k : Nat) (a0_0 : Int) (a0_1 : Int) (a0_2 : Int) (a1_0 : Int) (a1_1 : Int) (a1_2 : Int) (a1_3 : Int) (a1_4 : Int) (a1_5 : Int) (r : Bool) (w : World) (h : spec_l11Reflects.f k a0_0 a0_1 a0_2 a1_0 a1_1 a1_2 a1_3 a1_4 a1_5 = some r) :
  Calls Try.prog 59 #[.agg #[.int .i64 a0_0, .int .i64 a0_1, .int .i64 a0_2], .agg #[.int .i64 a1_0, .int .i64 a1_1, .int .i64 a1_2, .int .i64 a1_3, .int .i64 a1_4, .int .i64 a1_5]] w fun e w' => e = .returned (.bool r) ∧ Below w.heap.size w w' := by
 have hu31 := Try.underlying31
 have hu36 := Try.underlying36
 have hu33 := Try.underlying33
 have hu34 := Try.underlying34
 have HB := Aside0.mk (Below.refl w.heap.size w)
 have H : ((spec_l11Invariant.f k a0_0 a0_1 a0_2 a1_0 a1_1 a1_2 a1_3 1).bind fun bt706 => ((spec_l11Centred.f k a0_0 a0_1 a0_2 a1_0 a1_1 a1_2 a1_3).bind fun t709 => (if t709 = true then (spec_l11Reflects.j0 k a1_0 a1_1 a1_2 a1_3 a1_4 a1_5 bt706.1 bt706.2) else ((spec_l01Scale.f bt706.1 bt706.2 2).bind fun bt710 => (spec_l11Reflects.j0 k a1_0 a1_1 a1_2 a1_3 a1_4 a1_5 bt710.1 bt710.2))))) = some r := h
 clear h
 replace H := Option.bind_eq_some_iff.mp H
 obtain ⟨⟨t706, t707⟩, A30, H⟩ := H
 replace H : ((spec_l11Centred.f k a0_0 a0_1 a0_2 a1_0 a1_1 a1_2 a1_3).bind fun t709 => (if t709 = true then (spec_l11Reflects.j0 k a1_0 a1_1 a1_2 a1_3 a1_4 a1_5 t706 t707) else ((spec_l01Scale.f t706 t707 2).bind fun bt710 => (spec_l11Reflects.j0 k a1_0 a1_1 a1_2 a1_3 a1_4 a1_5 bt710.1 bt710.2)))) = some r := H
 have A3 := Aside0.mk A30
 clear A30
 replace H := Option.bind_eq_some_iff.mp H
 obtain ⟨t709, A40, H⟩ := H
 replace H : (if t709 = true then (spec_l11Reflects.j0 k a1_0 a1_1 a1_2 a1_3 a1_4 a1_5 t706 t707) else ((spec_l01Scale.f t706 t707 2).bind fun bt710 => (spec_l11Reflects.j0 k a1_0 a1_1 a1_2 a1_3 a1_4 a1_5 bt710.1 bt710.2))) = some r := H
 have A4 := Aside0.mk A40
 clear A40
 have HC5 := Aside0.mk H
 clear H
 go_enter Try.func59, Try.ntmps59
 go_upto_if 16 with (first | ((with_reducible refine gate_dst (N := 2) rfl ?_); refine box_event ?hg (N := 2) ?hd (cs := #[.int .i64 a0_0, .int .i64 a0_1, .int .i64 a0_2]) (t := 31) ?hr ?_; (case hd => rfl); (case hg => rfl); (case hr => first | (go_simp; done) | (go_simp; rfl)); intro gb704 hg w6 hbox hb; have n0_ := Aside0.mk (bst0 HB hb); have n1_ := Aside0.mk (hbox); have n2_ := ngw0 hg HB; have n3_ := n2_; clear HB; have HB := n0_; have BK704 := n1_; have GW704 := n2_; have GE704 := n3_; clear n0_ n1_ n2_ n3_; clear hb hbox hg) | ((with_reducible refine gate_dst (N := 3) rfl ?_); refine box_event ?hg (N := 3) ?hd (cs := #[.int .i64 a1_0, .int .i64 a1_1, .int .i64 a1_2, .int .i64 a1_3, .int .i64 a1_4, .int .i64 a1_5]) (t := 36) ?hr ?_; (case hd => rfl); (case hg => rfl); (case hr => first | (go_simp; done) | (go_simp; rfl)); intro gb705 hg w7 hbox hb; have n0_ := Aside0.mk (bbl BK704 hb); have n1_ := Aside0.mk (bst1 HB GE704 hb); have n2_ := Aside0.mk (hbox); have n3_ := ngw1 hg HB GE704; have n4_ := n3_; have n5_ := nlt hg BK704; have n6_ := nsy (nlt hg BK704); clear BK704; clear HB; have BK704 := n0_; have HB := n1_; have BK705 := n2_; have GW705 := n3_; have GE705 := n4_; have NB704_705 := n5_; have NB705_704 := n6_; clear n0_ n1_ n2_ n3_ n4_ n5_ n6_; clear hb hbox hg; have hnb8 := NB704_705.out; have hnc8 := NB705_704.out; have hcz9_0 : w7.cell? ⟨gb704, 0, none⟩ = some (.int .i64 a0_0) := bcl BK704 0; have hcz9_1 : w7.cell? ⟨gb704, 1, none⟩ = some (.int .i64 a0_1) := bcl BK704 1; have hcz9_2 : w7.cell? ⟨gb704, 2, none⟩ = some (.int .i64 a0_2) := bcl BK704 2; have hfz9_0 := blk_frozen BK704.out 0; have hfz9_1 := blk_frozen BK704.out 1; have hfz9_2 := blk_frozen BK704.out 2; have hcz10_0 : w7.cell? ⟨gb705, 0, none⟩ = some (.int .i64 a1_0) := bcl BK705 0; have hcz10_1 : w7.cell? ⟨gb705, 1, none⟩ = some (.int .i64 a1_1) := bcl BK705 1; have hcz10_2 : w7.cell? ⟨gb705, 2, none⟩ = some (.int .i64 a1_2) := bcl BK705 2; have hcz10_3 : w7.cell? ⟨gb705, 3, none⟩ = some (.int .i64 a1_3) := bcl BK705 3; have hcz10_4 : w7.cell? ⟨gb705, 4, none⟩ = some (.int .i64 a1_4) := bcl BK705 4; have hcz10_5 : w7.cell? ⟨gb705, 5, none⟩ = some (.int .i64 a1_5) := bcl BK705 5; have hfz10_0 := blk_frozen BK705.out 0; have hfz10_1 := blk_frozen BK705.out 1; have hfz10_2 := blk_frozen BK705.out 2; have hfz10_3 := blk_frozen BK705.out 3; have hfz10_4 := blk_frozen BK705.out 4; have hfz10_5 := blk_frozen BK705.out 5) | ((with_reducible refine gate_callee (f := 52) rfl ?_); refine goesL_ (some 11) rfl rfl Try.func52 (by kernel_rfl) rfl #[.agg #[.int .i64 a0_0, .int .i64 a0_1, .int .i64 a0_2], .agg #[.int .i64 a1_0, .int .i64 a1_1, .int .i64 a1_2, .int .i64 a1_3], .int .i64 1] rfl (by (try simp only [List.map_toArray, List.map_cons, List.map_nil]); first | done | rfl | (simp only [List.length_drop, List.length_take]; rfl)) ?_; (with_reducible refine (spec_l11Invariant.calls k a0_0 a0_1 a0_2 a1_0 a1_1 a1_2 a1_3 1 t706 t707 _ A3.out).mono ?_); rintro e w11 ⟨rfl, hb⟩; refine ⟨_, rfl, ?_⟩; have n0_ := Aside0.mk (bbl BK704 hb); have n1_ := Aside0.mk (bbl BK705 hb); have n2_ := Aside0.mk (bst2 HB GE704 GE705 hb); clear BK704; clear BK705; clear HB; have BK704 := n0_; have BK705 := n1_; have HB := n2_; clear n0_ n1_ n2_; (try clear hb); (try clear hb2); (try clear hk); (try clear hi)) | ((with_reducible refine gate_dst (N := 5) rfl ?_); refine box_event ?hg (N := 5) ?hd (cs := #[.int .i64 0, .int .i64 0]) (t := 34) ?hr ?_; (case hd => rfl); (case hg => rfl); (case hr => first | (go_simp; done) | (go_simp; rfl)); intro gb708 hg w12 hbox hb; have n0_ := Aside0.mk (bbl BK704 hb); have n1_ := Aside0.mk (bbl BK705 hb); have n2_ := Aside0.mk (bst2 HB GE704 GE705 hb); have n3_ := Aside0.mk (hbox); have n4_ := ngw2 hg HB GE704 GE705; have n5_ := n4_; have n6_ := nlt hg BK704; have n7_ := nsy (nlt hg BK704); have n8_ := nlt hg BK705; have n9_ := nsy (nlt hg BK705); clear BK704; clear BK705; clear HB; have BK704 := n0_; have BK705 := n1_; have HB := n2_; have BK708 := n3_; have GW708 := n4_; have GE708 := n5_; have NB704_708 := n6_; have NB708_704 := n7_; have NB705_708 := n8_; have NB708_705 := n9_; clear n0_ n1_ n2_ n3_ n4_ n5_ n6_ n7_ n8_ n9_; clear hb hbox hg; have hnb13 := NB708_704.out; have hnc13 := NB704_708.out; have hnb14 := NB708_705.out; have hnc14 := NB705_708.out; have hcz15_0 : w12.cell? ⟨gb708, 0, none⟩ = some (.int .i64 0) := bcl BK708 0; have hcz15_1 : w12.cell? ⟨gb708, 1, none⟩ = some (.int .i64 0) := bcl BK708 1; have hfz15_0 := blk_frozen BK708.out 0; have hfz15_1 := blk_frozen BK708.out 1; have hcz16_0 : w12.cell? ⟨gb704, 0, none⟩ = some (.int .i64 a0_0) := bcl BK704 0; have hcz16_1 : w12.cell? ⟨gb704, 1, none⟩ = some (.int .i64 a0_1) := bcl BK704 1; have hcz16_2 : w12.cell? ⟨gb704, 2, none⟩ = some (.int .i64 a0_2) := bcl BK704 2; have hfz16_0 := blk_frozen BK704.out 0; have hfz16_1 := blk_frozen BK704.out 1; have hfz16_2 := blk_frozen BK704.out 2; have hcz17_0 : w12.cell? ⟨gb705, 0, none⟩ = some (.int .i64 a1_0) := bcl BK705 0; have hcz17_1 : w12.cell? ⟨gb705, 1, none⟩ = some (.int .i64 a1_1) := bcl BK705 1; have hcz17_2 : w12.cell? ⟨gb705, 2, none⟩ = some (.int .i64 a1_2) := bcl BK705 2; have hcz17_3 : w12.cell? ⟨gb705, 3, none⟩ = some (.int .i64 a1_3) := bcl BK705 3; have hcz17_4 : w12.cell? ⟨gb705, 4, none⟩ = some (.int .i64 a1_4) := bcl BK705 4; have hcz17_5 : w12.cell? ⟨gb705, 5, none⟩ = some (.int .i64 a1_5) := bcl BK705 5; have hfz17_0 := blk_frozen BK705.out 0; have hfz17_1 := blk_frozen BK705.out 1; have hfz17_2 := blk_frozen BK705.out 2; have hfz17_3 := blk_frozen BK705.out 3; have hfz17_4 := blk_frozen BK705.out 4; have hfz17_5 := blk_frozen BK705.out 5) | ((with_reducible refine gate_callee (f := 56) rfl ?_); refine goesL_ (some 15) rfl rfl Try.func56 (by kernel_rfl) rfl #[.agg #[.int .i64 a0_0, .int .i64 a0_1, .int .i64 a0_2], .agg #[.int .i64 a1_0, .int .i64 a1_1, .int .i64 a1_2, .int .i64 a1_3]] rfl (by (try simp only [List.map_toArray, List.map_cons, List.map_nil]); first | done | rfl | (simp only [List.length_drop, List.length_take]; rfl)) ?_; (with_reducible refine (spec_l11Centred.calls k a0_0 a0_1 a0_2 a1_0 a1_1 a1_2 a1_3 t709 _ A4.out).mono ?_); rintro e w18 ⟨rfl, hb⟩; refine ⟨_, rfl, ?_⟩; have n0_ := Aside0.mk (blk_below (g := gb704) (o := .cells #[.int .i64 a0_0, .int .i64 a0_1, .int .i64 a0_2] 31 (0, 0)) (by (with_reducible repeat (first | refine blk_drewN ?_ _ | refine blk_drew ?_ | refine blk_alloc ?_ _)); refine blk_far ?_ NB704_708.out _; (with_reducible repeat (first | refine blk_drewN ?_ _ | refine blk_drew ?_ | refine blk_alloc ?_ _)); refine blk_far ?_ NB704_708.out _; (with_reducible repeat (first | refine blk_drewN ?_ _ | refine blk_drew ?_ | refine blk_alloc ?_ _)); exact BK704.out) hb); have n1_ := Aside0.mk (blk_below (g := gb705) (o := .cells #[.int .i64 a1_0, .int .i64 a1_1, .int .i64 a1_2, .int .i64 a1_3, .int .i64 a1_4, .int .i64 a1_5] 36 (0, 0)) (by (with_reducible repeat (first | refine blk_drewN ?_ _ | refine blk_drew ?_ | refine blk_alloc ?_ _)); refine blk_far ?_ NB705_708.out _; (with_reducible repeat (first | refine blk_drewN ?_ _ | refine blk_drew ?_ | refine blk_alloc ?_ _)); refine blk_far ?_ NB705_708.out _; (with_reducible repeat (first | refine blk_drewN ?_ _ | refine blk_drew ?_ | refine blk_alloc ?_ _)); exact BK705.out) hb); have n2_ := Aside0.mk (blk_below (g := gb708) (o := .cells #[.int .i64 t706, .int .i64 t707] 34 (0, 0)) (by (with_reducible repeat (first | refine blk_drewN ?_ _ | refine blk_drew ?_ | refine blk_alloc ?_ _)); refine blk_put (cs := #[.int .i64 t706, .int .i64 0]) ?_ 1 _ rfl; (with_reducible repeat (first | refine blk_drewN ?_ _ | refine blk_drew ?_ | refine blk_alloc ?_ _)); refine blk_put (cs := #[.int .i64 0, .int .i64 0]) ?_ 0 _ rfl; (with_reducible repeat (first | refine blk_drewN ?_ _ | refine blk_drew ?_ | refine blk_alloc ?_ _)); exact BK708.out) hb); have n3_ := Aside0.mk (bst3 HB GE704 GE705 GE708 hb); clear BK704; clear BK705; clear BK708; clear HB; have BK704 := n0_; have BK705 := n1_; have BK708 := n2_; have HB := n3_; clear n0_ n1_ n2_ n3_; (try clear hb); (try clear hb2); (try clear hk); (try clear hi)))
 (try simp only [Act.put, sA, sB, sC])
 go_cut [] (fun wc => ∃ (kq : Nat) (x709000_4 : Int) (x709001_4 : Int), Aside0 (spec_l11Reflects.j0 kq a1_0 a1_1 a1_2 a1_3 a1_4 a1_5 x709000_4 x709001_4 = some r) ∧ Aside0 (kq ≤ k) ∧ Aside0 (wc.heap[gb704]? = some (.cells #[.int .i64 a0_0, .int .i64 a0_1, .int .i64 a0_2] 31 (0, 0))) ∧ Aside0 (wc.heap[gb705]? = some (.cells #[.int .i64 a1_0, .int .i64 a1_1, .int .i64 a1_2, .int .i64 a1_3, .int .i64 a1_4, .int .i64 a1_5] 36 (0, 0))) ∧ Aside0 (wc.heap[gb708]? = some (.cells #[.int .i64 x709000_4, .int .i64 x709001_4] 34 (0, 0))) ∧ Aside0 (Below w.heap.size w wc))
 case first =>
  have H := HC5.out
  clear HC5
  by_cases c19 : t709 = true
  ·subst c19
   have H1 : (spec_l11Reflects.j0 k a1_0 a1_1 a1_2 a1_3 a1_4 a1_5 t706 t707) = some r := by rw [if_pos rfl] at H; first | done | exact H
   clear H
   have H := H1
   clear H1
   have H' := Aside0.mk H
   clear H
   go_wp2
   go_meet
   case rel => exact ⟨_, (t706), (t707), H', ⟨by first | omega | exact Nat.le_refl _⟩, ⟨bkp BK704⟩, ⟨bkp BK705⟩, ⟨bkp BK708⟩, ⟨bbw3 HB GE704 GE705 GE708⟩⟩
  ·replace c19 := Bool.eq_false_iff.mpr c19
   subst c19
   have H1 : ((spec_l01Scale.f t706 t707 2).bind fun bt710 => (spec_l11Reflects.j0 k a1_0 a1_1 a1_2 a1_3 a1_4 a1_5 bt710.1 bt710.2)) = some r := by rw [if_neg (show ¬ (false = true) by decide)] at H; first | done | exact H
   clear H
   have H := H1
   clear H1
   replace H := Option.bind_eq_some_iff.mp H
   obtain ⟨⟨t710, t711⟩, A200, H⟩ := H
   replace H : (spec_l11Reflects.j0 k a1_0 a1_1 a1_2 a1_3 a1_4 a1_5 t710 t711) = some r := H
   have A20 := Aside0.mk A200
   clear A200
   have H' := Aside0.mk H
   clear H
   have hnb21 := NB708_704.out
   have hnc21 := NB704_708.out
   have hnb22 := NB708_705.out
   have hnc22 := NB705_708.out
   have hcz23_0 : w18.cell? ⟨gb708, 0, none⟩ = some (.int .i64 t706) := bcl BK708 0
   have hcz23_1 : w18.cell? ⟨gb708, 1, none⟩ = some (.int .i64 t707) := bcl BK708 1
   have hfz23_0 := blk_frozen BK708.out 0
   have hfz23_1 := blk_frozen BK708.out 1
   go_wp2_with (first | ((with_reducible refine gate_callee (f := 90) rfl ?_); refine goesL_ (some 18) rfl rfl Try.func90 (by kernel_rfl) rfl #[.agg #[.int .i64 t706, .int .i64 t707], .int .i64 2] rfl (by (try simp only [List.map_toArray, List.map_cons, List.map_nil]); first | done | rfl | (simp only [List.length_drop, List.length_take]; rfl)) ?_; (with_reducible refine (spec_l01Scale.calls t706 t707 2 t710 t711 _ A20.out).mono ?_); rintro e w24 ⟨rfl, hb⟩; refine ⟨_, rfl, ?_⟩; have n0_ := Aside0.mk (bbl BK704 hb); have n1_ := Aside0.mk (bbl BK705 hb); have n2_ := Aside0.mk (bbl BK708 hb); have n3_ := Aside0.mk (bst3 HB GE704 GE705 GE708 hb); clear BK704; clear BK705; clear BK708; clear HB; have BK704 := n0_; have BK705 := n1_; have BK708 := n2_; have HB := n3_; clear n0_ n1_ n2_ n3_; (try clear hb); (try clear hb2); (try clear hk); (try clear hi); have hcz25_0 : w24.cell? ⟨gb708, 0, none⟩ = some (.int .i64 t706) := bcl BK708 0; have hcz25_1 : w24.cell? ⟨gb708, 1, none⟩ = some (.int .i64 t707) := bcl BK708 1; have hfz25_0 := blk_frozen BK708.out 0; have hfz25_1 := blk_frozen BK708.out 1))
   go_meet
   case rel => exact ⟨_, (t710), (t711), H', ⟨by first | omega | exact Nat.le_refl _⟩, ⟨by (with_reducible repeat (first | refine blk_drewN ?_ _ | refine blk_drew ?_ | refine blk_alloc ?_ _)); refine blk_far ?_ NB704_708.out _; (with_reducible repeat (first | refine blk_drewN ?_ _ | refine blk_drew ?_ | refine blk_alloc ?_ _)); refine blk_far ?_ NB704_708.out _; (with_reducible repeat (first | refine blk_drewN ?_ _ | refine blk_drew ?_ | refine blk_alloc ?_ _)); exact BK704.out⟩, ⟨by (with_reducible repeat (first | refine blk_drewN ?_ _ | refine blk_drew ?_ | refine blk_alloc ?_ _)); refine blk_far ?_ NB705_708.out _; (with_reducible repeat (first | refine blk_drewN ?_ _ | refine blk_drew ?_ | refine blk_alloc ?_ _)); refine blk_far ?_ NB705_708.out _; (with_reducible repeat (first | refine blk_drewN ?_ _ | refine blk_drew ?_ | refine blk_alloc ?_ _)); exact BK705.out⟩, ⟨by (with_reducible repeat (first | refine blk_drewN ?_ _ | refine blk_drew ?_ | refine blk_alloc ?_ _)); refine blk_put (cs := #[.int .i64 t710, .int .i64 t707]) ?_ 1 _ rfl; (with_reducible repeat (first | refine blk_drewN ?_ _ | refine blk_drew ?_ | refine blk_alloc ?_ _)); refine blk_put (cs := #[.int .i64 t706, .int .i64 t707]) ?_ 0 _ rfl; (with_reducible repeat (first | refine blk_drewN ?_ _ | refine blk_drew ?_ | refine blk_alloc ?_ _)); exact BK708.out⟩, ⟨bbw3 HB GE704 GE705 GE708⟩⟩
 case rest =>
  clear HC5
  try clear c1
  try clear c2
  try clear p2
  try clear c5
  try clear c8
  try clear c9
  try clear c13
  try clear c14
  try clear c19
  try clear c21
  try clear c22
  try clear hcz10_0
  try clear hcz10_1
  try clear hcz10_2
  try clear hcz10_3
  try clear hcz10_4
  try clear hcz10_5
  try clear hcz15_0
  try clear hcz15_1
  try clear hcz16_0
  try clear hcz16_1
  try clear hcz16_2
  try clear hcz17_0
  try clear hcz17_1
  try clear hcz17_2
  try clear hcz17_3
  try clear hcz17_4
  try clear hcz17_5
  try clear hcz23_0
  try clear hcz23_1
  try clear hcz25_0
  try clear hcz25_1
  try clear hcz9_0
  try clear hcz9_1
  try clear hcz9_2
  try clear hfz10_0
  try clear hfz10_1
  try clear hfz10_2
  try clear hfz10_3
  try clear hfz10_4
  try clear hfz10_5
  try clear hfz15_0
  try clear hfz15_1
  try clear hfz16_0
  try clear hfz16_1
  try clear hfz16_2
  try clear hfz17_0
  try clear hfz17_1
  try clear hfz17_2
  try clear hfz17_3
  try clear hfz17_4
  try clear hfz17_5
  try clear hfz23_0
  try clear hfz23_1
  try clear hfz25_0
  try clear hfz25_1
  try clear hfz9_0
  try clear hfz9_1
  try clear hfz9_2
  obtain ⟨kq, x709000_4, x709001_4, HA, HJ4, BK704, BK705, BK708, HB⟩ := hcut
  cases kq with
  | zero => exact absurd HA.out (by simp [spec_l11Reflects.j0])
  | succ kj4 =>
   have H := HA.out
   clear HA
   simp only [spec_l11Reflects.j0] at H
   replace H := Option.bind_eq_some_iff.mp H
   obtain ⟨⟨t712, t713⟩, A260, H⟩ := H
   replace H : ((spec_l01Divisor.f kj4 x709000_4 x709001_4).bind fun t715 => ((spec_l01Divisor.f kj4 t712 t713).bind fun t716 => ((spec_l01Mod.f t716 t715).bind fun t717 => (some (t717 == 0))))) = some r := H
   have A26 := Aside0.mk A260
   clear A260
   replace H := Option.bind_eq_some_iff.mp H
   obtain ⟨t715, A270, H⟩ := H
   replace H : ((spec_l01Divisor.f kj4 t712 t713).bind fun t716 => ((spec_l01Mod.f t716 t715).bind fun t717 => (some (t717 == 0)))) = some r := H
   have A27 := Aside0.mk A270
   clear A270
   replace H := Option.bind_eq_some_iff.mp H
   obtain ⟨t716, A280, H⟩ := H
   replace H : ((spec_l01Mod.f t716 t715).bind fun t717 => (some (t717 == 0))) = some r := H
   have A28 := Aside0.mk A280
   clear A280
   replace H := Option.bind_eq_some_iff.mp H
   obtain ⟨t717, A290, H⟩ := H
   replace H : (some (t717 == 0)) = some r := H
   have A29 := Aside0.mk A290
   clear A290
   obtain rfl := Option.some.inj H
   have hnb30 := NB705_704.out
   have hnc30 := NB704_705.out
   have hnb31 := NB705_708.out
   have hnc31 := NB708_705.out
   have hcz32_0 : wc.cell? ⟨gb705, 0, none⟩ = some (.int .i64 a1_0) := bcl BK705 0
   have hcz32_1 : wc.cell? ⟨gb705, 1, none⟩ = some (.int .i64 a1_1) := bcl BK705 1
   have hcz32_2 : wc.cell? ⟨gb705, 2, none⟩ = some (.int .i64 a1_2) := bcl BK705 2
   have hcz32_3 : wc.cell? ⟨gb705, 3, none⟩ = some (.int .i64 a1_3) := bcl BK705 3
   have hcz32_4 : wc.cell? ⟨gb705, 4, none⟩ = some (.int .i64 a1_4) := bcl BK705 4
   have hcz32_5 : wc.cell? ⟨gb705, 5, none⟩ = some (.int .i64 a1_5) := bcl BK705 5
   have hfz32_0 := blk_frozen BK705.out 0
   have hfz32_1 := blk_frozen BK705.out 1
   have hfz32_2 := blk_frozen BK705.out 2
   have hfz32_3 := blk_frozen BK705.out 3
   have hfz32_4 := blk_frozen BK705.out 4
   have hfz32_5 := blk_frozen BK705.out 5
   go_wp2_with (first | ((with_reducible refine gate_callee (f := 100) rfl ?_); refine goesL_ (some 20) rfl rfl Try.func100 (by kernel_rfl) rfl #[.agg #[.int .i64 a1_0, .int .i64 a1_1, .int .i64 a1_2, .int .i64 a1_3, .int .i64 a1_4, .int .i64 a1_5]] rfl (by (try simp only [List.map_toArray, List.map_cons, List.map_nil]); first | done | rfl | (simp only [List.length_drop, List.length_take]; rfl)) ?_; (with_reducible refine (spec_l05Twice.calls a1_0 a1_1 a1_2 a1_3 a1_4 a1_5 t712 t713 _ A26.out).mono ?_); rintro e w33 ⟨rfl, hb⟩; refine ⟨_, rfl, ?_⟩; have n0_ := Aside0.mk (bbl BK704 hb); have n1_ := Aside0.mk (bbl BK705 hb); have n2_ := Aside0.mk (bbl BK708 hb); have n3_ := Aside0.mk (bst3 HB GE704 GE705 GE708 hb); clear BK704; clear BK705; clear BK708; clear HB; have BK704 := n0_; have BK705 := n1_; have BK708 := n2_; have HB := n3_; clear n0_ n1_ n2_ n3_; (try clear hb); (try clear hb2); (try clear hk); (try clear hi)) | ((with_reducible refine gate_dst (N := 6) rfl ?_); refine box_event ?hg (N := 6) ?hd (cs := #[.int .i64 0, .int .i64 0]) (t := 34) ?hr ?_; (case hd => rfl); (case hg => rfl); (case hr => first | (go_simp; done) | (go_simp; rfl)); intro gb714 hg w34 hbox hb; have n0_ := Aside0.mk (bbl BK704 hb); have n1_ := Aside0.mk (bbl BK705 hb); have n2_ := Aside0.mk (bbl BK708 hb); have n3_ := Aside0.mk (bst3 HB GE704 GE705 GE708 hb); have n4_ := Aside0.mk (hbox); have n5_ := ngw3 hg HB GE704 GE705 GE708; have n6_ := n5_; have n7_ := nlt hg BK704; have n8_ := nsy (nlt hg BK704); have n9_ := nlt hg BK705; have n10_ := nsy (nlt hg BK705); have n11_ := nlt hg BK708; have n12_ := nsy (nlt hg BK708); clear BK704; clear BK705; clear BK708; clear HB; have BK704 := n0_; have BK705 := n1_; have BK708 := n2_; have HB := n3_; have BK714 := n4_; have GW714 := n5_; have GE714 := n6_; have NB704_714 := n7_; have NB714_704 := n8_; have NB705_714 := n9_; have NB714_705 := n10_; have NB708_714 := n11_; have NB714_708 := n12_; clear n0_ n1_ n2_ n3_ n4_ n5_ n6_ n7_ n8_ n9_ n10_ n11_ n12_; clear hb hbox hg; have hnb35 := NB714_704.out; have hnc35 := NB704_714.out; have hnb36 := NB714_705.out; have hnc36 := NB705_714.out; have hnb37 := NB714_708.out; have hnc37 := NB708_714.out; have hcz38_0 : w34.cell? ⟨gb714, 0, none⟩ = some (.int .i64 0) := bcl BK714 0; have hcz38_1 : w34.cell? ⟨gb714, 1, none⟩ = some (.int .i64 0) := bcl BK714 1; have hfz38_0 := blk_frozen BK714.out 0; have hfz38_1 := blk_frozen BK714.out 1; have hnb39 := NB708_704.out; have hnc39 := NB704_708.out; have hcz40_0 : w34.cell? ⟨gb708, 0, none⟩ = some (.int .i64 x709000_4) := bcl BK708 0; have hcz40_1 : w34.cell? ⟨gb708, 1, none⟩ = some (.int .i64 x709001_4) := bcl BK708 1; have hfz40_0 := blk_frozen BK708.out 0; have hfz40_1 := blk_frozen BK708.out 1) | ((with_reducible refine gate_callee (f := 101) rfl ?_); refine goesL_ (some 25) rfl rfl Try.func101 (by kernel_rfl) rfl #[.int .i64 x709000_4, .int .i64 x709001_4] rfl (by (try simp only [List.map_toArray, List.map_cons, List.map_nil]); first | done | rfl | (simp only [List.length_drop, List.length_take]; rfl)) ?_; (with_reducible refine (spec_l01Divisor.calls kj4 x709000_4 x709001_4 t715 _ A27.out).mono ?_); rintro e w41 ⟨rfl, hb⟩; refine ⟨_, rfl, ?_⟩; have n0_ := Aside0.mk (blk_below (g := gb704) (o := .cells #[.int .i64 a0_0, .int .i64 a0_1, .int .i64 a0_2] 31 (0, 0)) (by (with_reducible repeat (first | refine blk_drewN ?_ _ | refine blk_drew ?_ | refine blk_alloc ?_ _)); refine blk_far ?_ NB704_714.out _; (with_reducible repeat (first | refine blk_drewN ?_ _ | refine blk_drew ?_ | refine blk_alloc ?_ _)); refine blk_far ?_ NB704_714.out _; (with_reducible repeat (first | refine blk_drewN ?_ _ | refine blk_drew ?_ | refine blk_alloc ?_ _)); exact BK704.out) hb); have n1_ := Aside0.mk (blk_below (g := gb705) (o := .cells #[.int .i64 a1_0, .int .i64 a1_1, .int .i64 a1_2, .int .i64 a1_3, .int .i64 a1_4, .int .i64 a1_5] 36 (0, 0)) (by (with_reducible repeat (first | refine blk_drewN ?_ _ | refine blk_drew ?_ | refine blk_alloc ?_ _)); refine blk_far ?_ NB705_714.out _; (with_reducible repeat (first | refine blk_drewN ?_ _ | refine blk_drew ?_ | refine blk_alloc ?_ _)); refine blk_far ?_ NB705_714.out _; (with_reducible repeat (first | refine blk_drewN ?_ _ | refine blk_drew ?_ | refine blk_alloc ?_ _)); exact BK705.out) hb); have n2_ := Aside0.mk (blk_below (g := gb708) (o := .cells #[.int .i64 x709000_4, .int .i64 x709001_4] 34 (0, 0)) (by (with_reducible repeat (first | refine blk_drewN ?_ _ | refine blk_drew ?_ | refine blk_alloc ?_ _)); refine blk_far ?_ NB708_714.out _; (with_reducible repeat (first | refine blk_drewN ?_ _ | refine blk_drew ?_ | refine blk_alloc ?_ _)); refine blk_far ?_ NB708_714.out _; (with_reducible repeat (first | refine blk_drewN ?_ _ | refine blk_drew ?_ | refine blk_alloc ?_ _)); exact BK708.out) hb); have n3_ := Aside0.mk (blk_below (g := gb714) (o := .cells #[.int .i64 t712, .int .i64 t713] 34 (0, 0)) (by (with_reducible repeat (first | refine blk_drewN ?_ _ | refine blk_drew ?_ | refine blk_alloc ?_ _)); refine blk_put (cs := #[.int .i64 t712, .int .i64 0]) ?_ 1 _ rfl; (with_reducible repeat (first | refine blk_drewN ?_ _ | refine blk_drew ?_ | refine blk_alloc ?_ _)); refine blk_put (cs := #[.int .i64 0, .int .i64 0]) ?_ 0 _ rfl; (with_reducible repeat (first | refine blk_drewN ?_ _ | refine blk_drew ?_ | refine blk_alloc ?_ _)); exact BK714.out) hb); have n4_ := Aside0.mk (bst4 HB GE704 GE705 GE708 GE714 hb); clear BK704; clear BK705; clear BK708; clear BK714; clear HB; have BK704 := n0_; have BK705 := n1_; have BK708 := n2_; have BK714 := n3_; have HB := n4_; clear n0_ n1_ n2_ n3_ n4_; (try clear hb); (try clear hb2); (try clear hk); (try clear hi); have hcz42_0 : w41.cell? ⟨gb714, 0, none⟩ = some (.int .i64 t712) := bcl BK714 0; have hcz42_1 : w41.cell? ⟨gb714, 1, none⟩ = some (.int .i64 t713) := bcl BK714 1; have hfz42_0 := blk_frozen BK714.out 0; have hfz42_1 := blk_frozen BK714.out 1) | ((with_reducible refine gate_callee (f := 101) rfl ?_); refine goesL_ (some 30) rfl rfl Try.func101 (by kernel_rfl) rfl #[.int .i64 t712, .int .i64 t713] rfl (by (try simp only [List.map_toArray, List.map_cons, List.map_nil]); first | done | rfl | (simp only [List.length_drop, List.length_take]; rfl)) ?_; (with_reducible refine (spec_l01Divisor.calls kj4 t712 t713 t716 _ A28.out).mono ?_); rintro e w43 ⟨rfl, hb⟩; refine ⟨_, rfl, ?_⟩; have n0_ := Aside0.mk (bbl BK704 hb); have n1_ := Aside0.mk (bbl BK705 hb); have n2_ := Aside0.mk (bbl BK708 hb); have n3_ := Aside0.mk (bbl BK714 hb); have n4_ := Aside0.mk (bst4 HB GE704 GE705 GE708 GE714 hb); clear BK704; clear BK705; clear BK708; clear BK714; clear HB; have BK704 := n0_; have BK705 := n1_; have BK708 := n2_; have BK714 := n3_; have HB := n4_; clear n0_ n1_ n2_ n3_ n4_; (try clear hb); (try clear hb2); (try clear hk); (try clear hi)) | ((with_reducible refine gate_callee (f := 102) rfl ?_); refine goesL_ (some 32) rfl rfl Try.func102 (by kernel_rfl) rfl #[.int .i64 t716, .int .i64 t715] rfl (by (try simp only [List.map_toArray, List.map_cons, List.map_nil]); first | done | rfl | (simp only [List.length_drop, List.length_take]; rfl)) ?_; (with_reducible refine (spec_l01Mod.calls t716 t715 t717 _ A29.out).mono ?_); rintro e w' ⟨rfl, ⟨nd, rfl⟩⟩; refine ⟨_, rfl, ?_⟩))
   go_ret
   exact ⟨by first | rfl | (simp [errW_none, errW_some] <;> rfl) | (simp [*, errW_none, errW_some] <;> rfl), bbw4 HB GE704 GE705 GE708 GE714⟩

/-! ### spec_MayReflect: function 29 -/
def spec_MayReflect.f (k : Nat) (a0 : Int) (a1_0 : Int) (a1_1 : Int) (a1_2 : Int) (a2_0 : Int) (a2_1 : Int) (a2_2 : Int) (a2_3 : Int) (a2_4 : Int) (a2_5 : Int) : Option (Bool × Int) := (spec_IsSuitable.f k a0 a1_0 a1_1 a1_2 a2_0 a2_1 a2_2 a2_3 a2_4 a2_5).bind fun t720 => ((spec_l06Code.f a0 a1_0 a1_1 a1_2 t720).bind fun t721 => (if t721 = 0 then ((spec_l02Det.f a2_0 a2_1 a2_2 a2_3).bind fun t722 => (if t722 = (-1) then ((spec_l11Reflects.f k a1_0 a1_1 a1_2 a2_0 a2_1 a2_2 a2_3 a2_4 a2_5).bind fun t723 => (some (t723, 0))) else (some (false, 0)))) else (some (false, t721))))
def spec_MayReflect.T1 : Bool × List (List Nat × List Nat) := (true, [([], []), ([], []), ([], []), ([], []), ([], []), ([2, 3, 4], [2, 3, 4]), ([0, 1, 5, 5], [0, 1, 5]), ([6, 6, 0, 1, 2, 3, 4, 5, 6], [6])])
def spec_MayReflect.B1 : List Nat := [0, 0, 0, 0, 0, 28, 63, 127]
theorem spec_MayReflect.tab1 : rtab .any (opsOf Try.f29 1) = spec_MayReflect.T1 := by kernel_rfl
theorem spec_MayReflect.bits1 : waitsOk spec_MayReflect.T1.2 spec_MayReflect.B1 = true := by kernel_rfl
set_option maxHeartbeats 8000000 in
set_option maxRecDepth 100000 in
theorem spec_MayReflect.calls (k : Nat) (a0 : Int) (a1_0 : Int) (a1_1 : Int) (a1_2 : Int) (a2_0 : Int) (a2_1 : Int) (a2_2 : Int) (a2_3 : Int) (a2_4 : Int) (a2_5 : Int) (r1 : Bool) (r2 : Int) (w : World) (h : spec_MayReflect.f k a0 a1_0 a1_1 a1_2 a2_0 a2_1 a2_2 a2_3 a2_4 a2_5 = some (r1, r2)) :
  Calls Try.prog 29 #[.int .i64 a0, .agg #[.int .i64 a1_0, .int .i64 a1_1, .int .i64 a1_2], .agg #[.int .i64 a2_0, .int .i64 a2_1, .int .i64 a2_2, .int .i64 a2_3, .int .i64 a2_4, .int .i64 a2_5]] w fun e w' => e = .returned (.tuple #[.bool r1, .int .i64 r2]) ∧ Below w.heap.size w w' := by
 have hu31 := Try.underlying31
 have hu36 := Try.underlying36
 have hu33 := Try.underlying33
 have HB := Aside0.mk (Below.refl w.heap.size w)
 have H : ((spec_IsSuitable.f k a0 a1_0 a1_1 a1_2 a2_0 a2_1 a2_2 a2_3 a2_4 a2_5).bind fun t720 => ((spec_l06Code.f a0 a1_0 a1_1 a1_2 t720).bind fun t721 => (if t721 = 0 then ((spec_l02Det.f a2_0 a2_1 a2_2 a2_3).bind fun t722 => (if t722 = (-1) then ((spec_l11Reflects.f k a1_0 a1_1 a1_2 a2_0 a2_1 a2_2 a2_3 a2_4 a2_5).bind fun t723 => (some (t723, 0))) else (some (false, 0)))) else (some (false, t721))))) = some (r1, r2) := h
 clear h
 replace H := Option.bind_eq_some_iff.mp H
 obtain ⟨t720, A40, H⟩ := H
 replace H : ((spec_l06Code.f a0 a1_0 a1_1 a1_2 t720).bind fun t721 => (if t721 = 0 then ((spec_l02Det.f a2_0 a2_1 a2_2 a2_3).bind fun t722 => (if t722 = (-1) then ((spec_l11Reflects.f k a1_0 a1_1 a1_2 a2_0 a2_1 a2_2 a2_3 a2_4 a2_5).bind fun t723 => (some (t723, 0))) else (some (false, 0)))) else (some (false, t721)))) = some (r1, r2) := H
 have A4 := Aside0.mk A40
 clear A40
 replace H := Option.bind_eq_some_iff.mp H
 obtain ⟨t721, A50, H⟩ := H
 replace H : (if t721 = 0 then ((spec_l02Det.f a2_0 a2_1 a2_2 a2_3).bind fun t722 => (if t722 = (-1) then ((spec_l11Reflects.f k a1_0 a1_1 a1_2 a2_0 a2_1 a2_2 a2_3 a2_4 a2_5).bind fun t723 => (some (t723, 0))) else (some (false, 0)))) else (some (false, t721))) = some (r1, r2) := H
 have A5 := Aside0.mk A50
 clear A50
 by_cases c6 : t721 = 0
 ·rw [if_pos c6] at H
  have c6b0 : (t721 == 0) = true := beq_iff_eq.mpr c6
  have c6b1 : (t721 != 0) = false := bne_eq_false_iff_eq.mpr c6
  clear c6
  replace H := Option.bind_eq_some_iff.mp H
  obtain ⟨t722, A70, H⟩ := H
  replace H : (if t722 = (-1) then ((spec_l11Reflects.f k a1_0 a1_1 a1_2 a2_0 a2_1 a2_2 a2_3 a2_4 a2_5).bind fun t723 => (some (t723, 0))) else (some (false, 0))) = some (r1, r2) := H
  have A7 := Aside0.mk A70
  clear A70
  by_cases c8 : t722 = (-1)
  ·rw [if_pos c8] at H
   have c8b0 : (t722 == (-1)) = true := beq_iff_eq.mpr c8
   have c8b1 : (t722 != (-1)) = false := bne_eq_false_iff_eq.mpr c8
   clear c8
   replace H := Option.bind_eq_some_iff.mp H
   obtain ⟨t723, A90, H⟩ := H
   replace H : (some (t723, 0)) = some (r1, r2) := H
   have A9 := Aside0.mk A90
   clear A90
   simp only [Option.some.injEq, Prod.mk.injEq] at H
   obtain ⟨rfl, rfl⟩ := H
   go_enter Try.func29, Try.ntmps29
   try go_wp2_with (first | ((with_reducible refine gate_dst (N := 4) rfl ?_); refine box_event ?hg (N := 4) ?hd (cs := #[.int .i64 a1_0, .int .i64 a1_1, .int .i64 a1_2]) (t := 31) ?hr ?_; (case hd => rfl); (case hg => rfl); (case hr => first | (go_simp; done) | (go_simp; rfl)); intro gb718 hg w10 hbox hb; have n0_ := Aside0.mk (bst0 HB hb); have n1_ := Aside0.mk (hbox); have n2_ := ngw0 hg HB; have n3_ := n2_; clear HB; have HB := n0_; have BK718 := n1_; have GW718 := n2_; have GE718 := n3_; clear n0_ n1_ n2_ n3_; clear hb hbox hg) | ((with_reducible refine gate_dst (N := 5) rfl ?_); refine box_event ?hg (N := 5) ?hd (cs := #[.int .i64 a2_0, .int .i64 a2_1, .int .i64 a2_2, .int .i64 a2_3, .int .i64 a2_4, .int .i64 a2_5]) (t := 36) ?hr ?_; (case hd => rfl); (case hg => rfl); (case hr => first | (go_simp; done) | (go_simp; rfl)); intro gb719 hg w11 hbox hb; have n0_ := Aside0.mk (bbl BK718 hb); have n1_ := Aside0.mk (bst1 HB GE718 hb); have n2_ := Aside0.mk (hbox); have n3_ := ngw1 hg HB GE718; have n4_ := n3_; have n5_ := nlt hg BK718; have n6_ := nsy (nlt hg BK718); clear BK718; clear HB; have BK718 := n0_; have HB := n1_; have BK719 := n2_; have GW719 := n3_; have GE719 := n4_; have NB718_719 := n5_; have NB719_718 := n6_; clear n0_ n1_ n2_ n3_ n4_ n5_ n6_; clear hb hbox hg))
   have n0_ := Aside0.mk (blk_drew BK718.out)
   have n1_ := Aside0.mk (blk_drew BK719.out)
   have n2_ := Aside0.mk (below_drew1 HB.out)
   clear BK718
   clear BK719
   clear HB
   have BK718 := n0_
   have BK719 := n1_
   have HB := n2_
   clear n0_ n1_ n2_
   refine start_ (n := 8) (S := fun w' => w'.cell? ⟨gb718, 0, none⟩ = some (.int .i64 a1_0) ∧ w'.cell? ⟨gb718, 1, none⟩ = some (.int .i64 a1_1) ∧ w'.cell? ⟨gb718, 2, none⟩ = some (.int .i64 a1_2) ∧ w'.cell? ⟨gb719, 0, none⟩ = some (.int .i64 a2_0) ∧ w'.cell? ⟨gb719, 1, none⟩ = some (.int .i64 a2_1) ∧ w'.cell? ⟨gb719, 2, none⟩ = some (.int .i64 a2_2) ∧ w'.cell? ⟨gb719, 3, none⟩ = some (.int .i64 a2_3) ∧ w'.cell? ⟨gb719, 4, none⟩ = some (.int .i64 a2_4) ∧ w'.cell? ⟨gb719, 5, none⟩ = some (.int .i64 a2_5)) (ds := []) #[false, false, false, false, false, false, false, false] (by kernel_rfl) rfl rfl ⟨bcl BK718 0, bcl BK718 1, bcl BK718 2, bcl BK719 0, bcl BK719 1, bcl BK719 2, bcl BK719 3, bcl BK719 4, bcl BK719 5⟩ (fun hHeld => ?_); refine with_tabW spec_MayReflect.tab1 spec_MayReflect.bits1 (fun HT_ HW_ => ?_)
   generalize w11.drew = w12 at BK718 BK719 HB hHeld ⊢
   refine pure_ (i := 0) (N := some 9) (v := ?_) (a' := ?_) #[true, false, false, false, false, false, false, false] rfl rfl (any_of HT_.out (by kernel_rfl)) (fun _ _ _ h => h) (Or.inl ⟨by rfl, ?_⟩) ?_ ?_
   rotate_left
   ·intro w'
    go_simp
    with_reducible rfl
   rotate_left
   ·simp only [Act.put, sA, sB, sC, i64_w, i32_w]
    rfl
   refine pure_ (i := 2) (N := some 11) (v := ?_) (a' := ?_) #[true, false, true, false, false, false, false, false] rfl rfl (any_of HT_.out (by kernel_rfl)) (fun _ _ _ h => h) (Or.inl ⟨by rfl, ?_⟩) ?_ ?_
   rotate_left
   ·intro w'
    go_simp
    with_reducible rfl
   rotate_left
   ·simp only [Act.put, sA, sB, sC, i64_w, i32_w]
    rfl
   refine take_ (i := 1) (N := some 10) (v := ?_) (a' := ?_) #[true, true, true, false, false, false, false, false] rfl rfl (take_ofW HT_.out HW_.out (by kernel_rfl)) (fun _ _ _ h => h) (Or.inl ⟨by rfl, ?_⟩) hHeld ?_ ?_
   rotate_left
   ·rintro w' ⟨s0, s1, s2, s3, s4, s5, s6, s7, s8⟩
    go_simp
    with_reducible rfl
   rotate_left
   ·simp only [Act.put, sA, sB, sC, i64_w, i32_w]
    rfl
   refine take_ (i := 3) (N := some 12) (v := ?_) (a' := ?_) #[true, true, true, true, false, false, false, false] rfl rfl (take_ofW HT_.out HW_.out (by kernel_rfl)) (fun _ _ _ h => h) (Or.inl ⟨by rfl, ?_⟩) hHeld ?_ ?_
   rotate_left
   ·rintro w' ⟨s0, s1, s2, s3, s4, s5, s6, s7, s8⟩
    go_simp
    with_reducible rfl
   rotate_left
   ·simp only [Act.put, sA, sB, sC, i64_w, i32_w]
    rfl
   refine take_ (i := 4) (N := some 13) (v := ?_) (a' := ?_) #[true, true, true, true, true, false, false, false] rfl rfl (take_ofW HT_.out HW_.out (by kernel_rfl)) (fun _ _ _ h => h) (Or.inl ⟨by rfl, ?_⟩) hHeld ?_ ?_
   rotate_left
   ·rintro w' ⟨s0, s1, s2, s3, s4, s5, s6, s7, s8⟩
    go_simp
    with_reducible rfl
   rotate_left
   ·simp only [Act.put, sA, sB, sC, i64_w, i32_w]
    rfl
   refine one_ (i := 5) (N := some 14) #[true, true, true, true, true, true, false, false] rfl rfl (one_of HT_.out (by kernel_rfl)) (by decide) (fun K hK => ?_)
   refine goes_ Try.func11 (by kernel_rfl) rfl #[.int .i64 a0, .agg #[.int .i64 a1_0, .int .i64 a1_1, .int .i64 a1_2], .agg #[.int .i64 a2_0, .int .i64 a2_1, .int .i64 a2_2, .int .i64 a2_3, .int .i64 a2_4, .int .i64 a2_5]] (by rfl) rfl rfl (by (try simp only [List.map_toArray, List.map_cons, List.map_nil]); first | done | rfl | (simp only [List.length_drop, List.length_take]; rfl)) ?_
   with_reducible refine (spec_IsSuitable.calls k a0 a1_0 a1_1 a1_2 a2_0 a2_1 a2_2 a2_3 a2_4 a2_5 t720 _ A4.out).mono ?_
   rintro e w13 ⟨rfl, hb⟩
   refine ⟨_, rfl, ?_⟩
   have n0_ := Aside0.mk (bbl BK718 hb)
   have n1_ := Aside0.mk (bbl BK719 hb)
   have n2_ := Aside0.mk (bst2 HB GE718 GE719 hb)
   clear BK718
   clear BK719
   clear HB
   have BK718 := n0_
   have BK719 := n1_
   have HB := n2_
   clear n0_ n1_ n2_
   (try clear hb)
   (try clear hb2)
   (try clear hk)
   (try clear hi)
   refine hK.out _ _ ⟨bcl BK718 0, bcl BK718 1, bcl BK718 2, bcl BK719 0, bcl BK719 1, bcl BK719 2, bcl BK719 3, bcl BK719 4, bcl BK719 5⟩ (fun hHeld => ?_)
   clear hK K
   refine norm_ (a' := ?_) ?_ ?_
   rotate_left
   ·show Act.put _ (some 14) _ = _
    simp only [Act.put, sA, sB, sC, i64_w, i32_w]
    rfl
   refine one_ (i := 6) (N := some 15) #[true, true, true, true, true, true, true, false] rfl rfl (one_of HT_.out (by kernel_rfl)) (by decide) (fun K hK => ?_)
   refine goes_ Try.func45 (by kernel_rfl) rfl #[.int .i64 a0, .agg #[.int .i64 a1_0, .int .i64 a1_1, .int .i64 a1_2], .bool t720] (by rfl) rfl rfl (by (try simp only [List.map_toArray, List.map_cons, List.map_nil]); first | done | rfl | (simp only [List.length_drop, List.length_take]; rfl)) ?_
   with_reducible refine (spec_l06Code.calls a0 a1_0 a1_1 a1_2 t720 t721 _ A5.out).mono ?_
   rintro e w14 ⟨rfl, hb⟩
   refine ⟨_, rfl, ?_⟩
   have n0_ := Aside0.mk (bbl BK718 hb)
   have n1_ := Aside0.mk (bbl BK719 hb)
   have n2_ := Aside0.mk (bst2 HB GE718 GE719 hb)
   clear BK718
   clear BK719
   clear HB
   have BK718 := n0_
   have BK719 := n1_
   have HB := n2_
   clear n0_ n1_ n2_
   (try clear hb)
   (try clear hb2)
   (try clear hk)
   (try clear hi)
   refine hK.out _ _ ⟨bcl BK718 0, bcl BK718 1, bcl BK718 2, bcl BK719 0, bcl BK719 1, bcl BK719 2, bcl BK719 3, bcl BK719 4, bcl BK719 5⟩ (fun hHeld => ?_)
   clear hK K
   refine norm_ (a' := ?_) ?_ ?_
   rotate_left
   ·show Act.put _ (some 15) _ = _
    simp only [Act.put, sA, sB, sC, i64_w, i32_w]
    rfl
   refine pure_ (i := 7) (N := some 8) (v := ?_) (a' := ?_) #[true, true, true, true, true, true, true, true] rfl rfl (any_of HT_.out (by kernel_rfl)) (fun _ _ _ h => h) (Or.inl ⟨by rfl, ?_⟩) ?_ ?_
   rotate_left
   ·intro w'
    go_simp
    with_reducible rfl
   rotate_left
   ·simp only [Act.put, sA, sB, sC, i64_w, i32_w]
    rfl
   refine done_ (done_of HT_.out (by kernel_rfl)) ?_
   have hnb15 := NB719_718.out
   have hnc15 := NB718_719.out
   have hcz16_0 : w14.cell? ⟨gb719, 0, none⟩ = some (.int .i64 a2_0) := bcl BK719 0
   have hcz16_1 : w14.cell? ⟨gb719, 1, none⟩ = some (.int .i64 a2_1) := bcl BK719 1
   have hcz16_2 : w14.cell? ⟨gb719, 2, none⟩ = some (.int .i64 a2_2) := bcl BK719 2
   have hcz16_3 : w14.cell? ⟨gb719, 3, none⟩ = some (.int .i64 a2_3) := bcl BK719 3
   have hcz16_4 : w14.cell? ⟨gb719, 4, none⟩ = some (.int .i64 a2_4) := bcl BK719 4
   have hcz16_5 : w14.cell? ⟨gb719, 5, none⟩ = some (.int .i64 a2_5) := bcl BK719 5
   have hfz16_0 := blk_frozen BK719.out 0
   have hfz16_1 := blk_frozen BK719.out 1
   have hfz16_2 := blk_frozen BK719.out 2
   have hfz16_3 := blk_frozen BK719.out 3
   have hfz16_4 := blk_frozen BK719.out 4
   have hfz16_5 := blk_frozen BK719.out 5
   try go_wp2_with (first | ((with_reducible refine gate_callee (f := 58) rfl ?_); refine goesL_ (some 21) rfl rfl Try.func58 (by kernel_rfl) rfl #[.agg #[.int .i64 a2_0, .int .i64 a2_1, .int .i64 a2_2, .int .i64 a2_3]] rfl (by (try simp only [List.map_toArray, List.map_cons, List.map_nil]); first | done | rfl | (simp only [List.length_drop, List.length_take]; rfl)) ?_; (with_reducible refine (spec_l02Det.calls a2_0 a2_1 a2_2 a2_3 t722 _ A7.out).mono ?_); rintro e w17 ⟨rfl, hb⟩; refine ⟨_, rfl, ?_⟩; have n0_ := Aside0.mk (bbl BK718 hb); have n1_ := Aside0.mk (bbl BK719 hb); have n2_ := Aside0.mk (bst2 HB GE718 GE719 hb); clear BK718; clear BK719; clear HB; have BK718 := n0_; have BK719 := n1_; have HB := n2_; clear n0_ n1_ n2_; (try clear hb); (try clear hb2); (try clear hk); (try clear hi); have hcz18_0 : w17.cell? ⟨gb718, 0, none⟩ = some (.int .i64 a1_0) := bcl BK718 0; have hcz18_1 : w17.cell? ⟨gb718, 1, none⟩ = some (.int .i64 a1_1) := bcl BK718 1; have hcz18_2 : w17.cell? ⟨gb718, 2, none⟩ = some (.int .i64 a1_2) := bcl BK718 2; have hfz18_0 := blk_frozen BK718.out 0; have hfz18_1 := blk_frozen BK718.out 1; have hfz18_2 := blk_frozen BK718.out 2; have hcz19_0 : w17.cell? ⟨gb719, 0, none⟩ = some (.int .i64 a2_0) := bcl BK719 0; have hcz19_1 : w17.cell? ⟨gb719, 1, none⟩ = some (.int .i64 a2_1) := bcl BK719 1; have hcz19_2 : w17.cell? ⟨gb719, 2, none⟩ = some (.int .i64 a2_2) := bcl BK719 2; have hcz19_3 : w17.cell? ⟨gb719, 3, none⟩ = some (.int .i64 a2_3) := bcl BK719 3; have hcz19_4 : w17.cell? ⟨gb719, 4, none⟩ = some (.int .i64 a2_4) := bcl BK719 4; have hcz19_5 : w17.cell? ⟨gb719, 5, none⟩ = some (.int .i64 a2_5) := bcl BK719 5; have hfz19_0 := blk_frozen BK719.out 0; have hfz19_1 := blk_frozen BK719.out 1; have hfz19_2 := blk_frozen BK719.out 2; have hfz19_3 := blk_frozen BK719.out 3; have hfz19_4 := blk_frozen BK719.out 4; have hfz19_5 := blk_frozen BK719.out 5) | (go_at_call 59; (with_reducible refine (spec_l11Reflects.calls k a1_0 a1_1 a1_2 a2_0 a2_1 a2_2 a2_3 a2_4 a2_5 t723 _ A9.out).mono ?_); rintro e w20 ⟨rfl, hb⟩; have n0_ := Aside0.mk (bbl BK718 hb); have n1_ := Aside0.mk (bbl BK719 hb); have n2_ := Aside0.mk (bst2 HB GE718 GE719 hb); clear BK718; clear BK719; clear HB; have BK718 := n0_; have BK719 := n1_; have HB := n2_; clear n0_ n1_ n2_; (try clear hb); (try clear hb2); (try clear hk); (try clear hi)))
   go_ret2
   exact ⟨by first | rfl | (simp [errW_none, errW_some] <;> rfl) | (simp [*, errW_none, errW_some] <;> rfl), bbw2 HB GE718 GE719⟩
  ·rw [if_neg c8] at H
   have c8b0 : (t722 == (-1)) = false := beq_eq_false_iff_ne.mpr c8
   have c8b1 : (t722 != (-1)) = true := bne_iff_ne.mpr c8
   simp only [Option.some.injEq, Prod.mk.injEq] at H
   obtain ⟨rfl, rfl⟩ := H
   go_enter Try.func29, Try.ntmps29
   try go_wp2_with (first | ((with_reducible refine gate_dst (N := 4) rfl ?_); refine box_event ?hg (N := 4) ?hd (cs := #[.int .i64 a1_0, .int .i64 a1_1, .int .i64 a1_2]) (t := 31) ?hr ?_; (case hd => rfl); (case hg => rfl); (case hr => first | (go_simp; done) | (go_simp; rfl)); intro gb718 hg w21 hbox hb; have n0_ := Aside0.mk (bst0 HB hb); have n1_ := Aside0.mk (hbox); have n2_ := ngw0 hg HB; have n3_ := n2_; clear HB; have HB := n0_; have BK718 := n1_; have GW718 := n2_; have GE718 := n3_; clear n0_ n1_ n2_ n3_; clear hb hbox hg) | ((with_reducible refine gate_dst (N := 5) rfl ?_); refine box_event ?hg (N := 5) ?hd (cs := #[.int .i64 a2_0, .int .i64 a2_1, .int .i64 a2_2, .int .i64 a2_3, .int .i64 a2_4, .int .i64 a2_5]) (t := 36) ?hr ?_; (case hd => rfl); (case hg => rfl); (case hr => first | (go_simp; done) | (go_simp; rfl)); intro gb719 hg w22 hbox hb; have n0_ := Aside0.mk (bbl BK718 hb); have n1_ := Aside0.mk (bst1 HB GE718 hb); have n2_ := Aside0.mk (hbox); have n3_ := ngw1 hg HB GE718; have n4_ := n3_; have n5_ := nlt hg BK718; have n6_ := nsy (nlt hg BK718); clear BK718; clear HB; have BK718 := n0_; have HB := n1_; have BK719 := n2_; have GW719 := n3_; have GE719 := n4_; have NB718_719 := n5_; have NB719_718 := n6_; clear n0_ n1_ n2_ n3_ n4_ n5_ n6_; clear hb hbox hg))
   have n0_ := Aside0.mk (blk_drew BK718.out)
   have n1_ := Aside0.mk (blk_drew BK719.out)
   have n2_ := Aside0.mk (below_drew1 HB.out)
   clear BK718
   clear BK719
   clear HB
   have BK718 := n0_
   have BK719 := n1_
   have HB := n2_
   clear n0_ n1_ n2_
   refine start_ (n := 8) (S := fun w' => w'.cell? ⟨gb718, 0, none⟩ = some (.int .i64 a1_0) ∧ w'.cell? ⟨gb718, 1, none⟩ = some (.int .i64 a1_1) ∧ w'.cell? ⟨gb718, 2, none⟩ = some (.int .i64 a1_2) ∧ w'.cell? ⟨gb719, 0, none⟩ = some (.int .i64 a2_0) ∧ w'.cell? ⟨gb719, 1, none⟩ = some (.int .i64 a2_1) ∧ w'.cell? ⟨gb719, 2, none⟩ = some (.int .i64 a2_2) ∧ w'.cell? ⟨gb719, 3, none⟩ = some (.int .i64 a2_3) ∧ w'.cell? ⟨gb719, 4, none⟩ = some (.int .i64 a2_4) ∧ w'.cell? ⟨gb719, 5, none⟩ = some (.int .i64 a2_5)) (ds := []) #[false, false, false, false, false, false, false, false] (by kernel_rfl) rfl rfl ⟨bcl BK718 0, bcl BK718 1, bcl BK718 2, bcl BK719 0, bcl BK719 1, bcl BK719 2, bcl BK719 3, bcl BK719 4, bcl BK719 5⟩ (fun hHeld => ?_); refine with_tabW spec_MayReflect.tab1 spec_MayReflect.bits1 (fun HT_ HW_ => ?_)
   generalize w22.drew = w23 at BK718 BK719 HB hHeld ⊢
   refine pure_ (i := 0) (N := some 9) (v := ?_) (a' := ?_) #[true, false, false, false, false, false, false, false] rfl rfl (any_of HT_.out (by kernel_rfl)) (fun _ _ _ h => h) (Or.inl ⟨by rfl, ?_⟩) ?_ ?_
   rotate_left
   ·intro w'
    go_simp
    with_reducible rfl
   rotate_left
   ·simp only [Act.put, sA, sB, sC, i64_w, i32_w]
    rfl
   refine pure_ (i := 2) (N := some 11) (v := ?_) (a' := ?_) #[true, false, true, false, false, false, false, false] rfl rfl (any_of HT_.out (by kernel_rfl)) (fun _ _ _ h => h) (Or.inl ⟨by rfl, ?_⟩) ?_ ?_
   rotate_left
   ·intro w'
    go_simp
    with_reducible rfl
   rotate_left
   ·simp only [Act.put, sA, sB, sC, i64_w, i32_w]
    rfl
   refine take_ (i := 1) (N := some 10) (v := ?_) (a' := ?_) #[true, true, true, false, false, false, false, false] rfl rfl (take_ofW HT_.out HW_.out (by kernel_rfl)) (fun _ _ _ h => h) (Or.inl ⟨by rfl, ?_⟩) hHeld ?_ ?_
   rotate_left
   ·rintro w' ⟨s0, s1, s2, s3, s4, s5, s6, s7, s8⟩
    go_simp
    with_reducible rfl
   rotate_left
   ·simp only [Act.put, sA, sB, sC, i64_w, i32_w]
    rfl
   refine take_ (i := 3) (N := some 12) (v := ?_) (a' := ?_) #[true, true, true, true, false, false, false, false] rfl rfl (take_ofW HT_.out HW_.out (by kernel_rfl)) (fun _ _ _ h => h) (Or.inl ⟨by rfl, ?_⟩) hHeld ?_ ?_
   rotate_left
   ·rintro w' ⟨s0, s1, s2, s3, s4, s5, s6, s7, s8⟩
    go_simp
    with_reducible rfl
   rotate_left
   ·simp only [Act.put, sA, sB, sC, i64_w, i32_w]
    rfl
   refine take_ (i := 4) (N := some 13) (v := ?_) (a' := ?_) #[true, true, true, true, true, false, false, false] rfl rfl (take_ofW HT_.out HW_.out (by kernel_rfl)) (fun _ _ _ h => h) (Or.inl ⟨by rfl, ?_⟩) hHeld ?_ ?_
   rotate_left
   ·rintro w' ⟨s0, s1, s2, s3, s4, s5, s6, s7, s8⟩
    go_simp
    with_reducible rfl
   rotate_left
   ·simp only [Act.put, sA, sB, sC, i64_w, i32_w]
    rfl
   refine one_ (i := 5) (N := some 14) #[true, true, true, true, true, true, false, false] rfl rfl (one_of HT_.out (by kernel_rfl)) (by decide) (fun K hK => ?_)
   refine goes_ Try.func11 (by kernel_rfl) rfl #[.int .i64 a0, .agg #[.int .i64 a1_0, .int .i64 a1_1, .int .i64 a1_2], .agg #[.int .i64 a2_0, .int .i64 a2_1, .int .i64 a2_2, .int .i64 a2_3, .int .i64 a2_4, .int .i64 a2_5]] (by rfl) rfl rfl (by (try simp only [List.map_toArray, List.map_cons, List.map_nil]); first | done | rfl | (simp only [List.length_drop, List.length_take]; rfl)) ?_
   with_reducible refine (spec_IsSuitable.calls k a0 a1_0 a1_1 a1_2 a2_0 a2_1 a2_2 a2_3 a2_4 a2_5 t720 _ A4.out).mono ?_
   rintro e w24 ⟨rfl, hb⟩
   refine ⟨_, rfl, ?_⟩
   have n0_ := Aside0.mk (bbl BK718 hb)
   have n1_ := Aside0.mk (bbl BK719 hb)
   have n2_ := Aside0.mk (bst2 HB GE718 GE719 hb)
   clear BK718
   clear BK719
   clear HB
   have BK718 := n0_
   have BK719 := n1_
   have HB := n2_
   clear n0_ n1_ n2_
   (try clear hb)
   (try clear hb2)
   (try clear hk)
   (try clear hi)
   refine hK.out _ _ ⟨bcl BK718 0, bcl BK718 1, bcl BK718 2, bcl BK719 0, bcl BK719 1, bcl BK719 2, bcl BK719 3, bcl BK719 4, bcl BK719 5⟩ (fun hHeld => ?_)
   clear hK K
   refine norm_ (a' := ?_) ?_ ?_
   rotate_left
   ·show Act.put _ (some 14) _ = _
    simp only [Act.put, sA, sB, sC, i64_w, i32_w]
    rfl
   refine one_ (i := 6) (N := some 15) #[true, true, true, true, true, true, true, false] rfl rfl (one_of HT_.out (by kernel_rfl)) (by decide) (fun K hK => ?_)
   refine goes_ Try.func45 (by kernel_rfl) rfl #[.int .i64 a0, .agg #[.int .i64 a1_0, .int .i64 a1_1, .int .i64 a1_2], .bool t720] (by rfl) rfl rfl (by (try simp only [List.map_toArray, List.map_cons, List.map_nil]); first | done | rfl | (simp only [List.length_drop, List.length_take]; rfl)) ?_
   with_reducible refine (spec_l06Code.calls a0 a1_0 a1_1 a1_2 t720 t721 _ A5.out).mono ?_
   rintro e w25 ⟨rfl, hb⟩
   refine ⟨_, rfl, ?_⟩
   have n0_ := Aside0.mk (bbl BK718 hb)
   have n1_ := Aside0.mk (bbl BK719 hb)
   have n2_ := Aside0.mk (bst2 HB GE718 GE719 hb)
   clear BK718
   clear BK719
   clear HB
   have BK718 := n0_
   have BK719 := n1_
   have HB := n2_
   clear n0_ n1_ n2_
   (try clear hb)
   (try clear hb2)
   (try clear hk)
   (try clear hi)
   refine hK.out _ _ ⟨bcl BK718 0, bcl BK718 1, bcl BK718 2, bcl BK719 0, bcl BK719 1, bcl BK719 2, bcl BK719 3, bcl BK719 4, bcl BK719 5⟩ (fun hHeld => ?_)
   clear hK K
   refine norm_ (a' := ?_) ?_ ?_
   rotate_left
   ·show Act.put _ (some 15) _ = _
    simp only [Act.put, sA, sB, sC, i64_w, i32_w]
    rfl
   refine pure_ (i := 7) (N := some 8) (v := ?_) (a' := ?_) #[true, true, true, true, true, true, true, true] rfl rfl (any_of HT_.out (by kernel_rfl)) (fun _ _ _ h => h) (Or.inl ⟨by rfl, ?_⟩) ?_ ?_
   rotate_left
   ·intro w'
    go_simp
    with_reducible rfl
   rotate_left
   ·simp only [Act.put, sA, sB, sC, i64_w, i32_w]
    rfl
   refine done_ (done_of HT_.out (by kernel_rfl)) ?_
   have hnb26 := NB719_718.out
   have hnc26 := NB718_719.out
   have hcz27_0 : w25.cell? ⟨gb719, 0, none⟩ = some (.int .i64 a2_0) := bcl BK719 0
   have hcz27_1 : w25.cell? ⟨gb719, 1, none⟩ = some (.int .i64 a2_1) := bcl BK719 1
   have hcz27_2 : w25.cell? ⟨gb719, 2, none⟩ = some (.int .i64 a2_2) := bcl BK719 2
   have hcz27_3 : w25.cell? ⟨gb719, 3, none⟩ = some (.int .i64 a2_3) := bcl BK719 3
   have hcz27_4 : w25.cell? ⟨gb719, 4, none⟩ = some (.int .i64 a2_4) := bcl BK719 4
   have hcz27_5 : w25.cell? ⟨gb719, 5, none⟩ = some (.int .i64 a2_5) := bcl BK719 5
   have hfz27_0 := blk_frozen BK719.out 0
   have hfz27_1 := blk_frozen BK719.out 1
   have hfz27_2 := blk_frozen BK719.out 2
   have hfz27_3 := blk_frozen BK719.out 3
   have hfz27_4 := blk_frozen BK719.out 4
   have hfz27_5 := blk_frozen BK719.out 5
   try go_wp2_with (first | ((with_reducible refine gate_callee (f := 58) rfl ?_); refine goesL_ (some 21) rfl rfl Try.func58 (by kernel_rfl) rfl #[.agg #[.int .i64 a2_0, .int .i64 a2_1, .int .i64 a2_2, .int .i64 a2_3]] rfl (by (try simp only [List.map_toArray, List.map_cons, List.map_nil]); first | done | rfl | (simp only [List.length_drop, List.length_take]; rfl)) ?_; (with_reducible refine (spec_l02Det.calls a2_0 a2_1 a2_2 a2_3 t722 _ A7.out).mono ?_); rintro e w28 ⟨rfl, hb⟩; refine ⟨_, rfl, ?_⟩; have n0_ := Aside0.mk (bbl BK718 hb); have n1_ := Aside0.mk (bbl BK719 hb); have n2_ := Aside0.mk (bst2 HB GE718 GE719 hb); clear BK718; clear BK719; clear HB; have BK718 := n0_; have BK719 := n1_; have HB := n2_; clear n0_ n1_ n2_; (try clear hb); (try clear hb2); (try clear hk); (try clear hi)))
   go_ret2
   exact ⟨by first | rfl | (simp [errW_none, errW_some] <;> rfl) | (simp [*, errW_none, errW_some] <;> rfl), bbw2 HB GE718 GE719⟩
 ·rw [if_neg c6] at H
  have c6b0 : (t721 == 0) = false := beq_eq_false_iff_ne.mpr c6
  have c6b1 : (t721 != 0) = true := bne_iff_ne.mpr c6
  simp only [Option.some.injEq, Prod.mk.injEq] at H
  obtain ⟨rfl, rfl⟩ := H
  go_enter Try.func29, Try.ntmps29
  try go_wp2_with (first | ((with_reducible refine gate_dst (N := 4) rfl ?_); refine box_event ?hg (N := 4) ?hd (cs := #[.int .i64 a1_0, .int .i64 a1_1, .int .i64 a1_2]) (t := 31) ?hr ?_; (case hd => rfl); (case hg => rfl); (case hr => first | (go_simp; done) | (go_simp; rfl)); intro gb718 hg w29 hbox hb; have n0_ := Aside0.mk (bst0 HB hb); have n1_ := Aside0.mk (hbox); have n2_ := ngw0 hg HB; have n3_ := n2_; clear HB; have HB := n0_; have BK718 := n1_; have GW718 := n2_; have GE718 := n3_; clear n0_ n1_ n2_ n3_; clear hb hbox hg) | ((with_reducible refine gate_dst (N := 5) rfl ?_); refine box_event ?hg (N := 5) ?hd (cs := #[.int .i64 a2_0, .int .i64 a2_1, .int .i64 a2_2, .int .i64 a2_3, .int .i64 a2_4, .int .i64 a2_5]) (t := 36) ?hr ?_; (case hd => rfl); (case hg => rfl); (case hr => first | (go_simp; done) | (go_simp; rfl)); intro gb719 hg w30 hbox hb; have n0_ := Aside0.mk (bbl BK718 hb); have n1_ := Aside0.mk (bst1 HB GE718 hb); have n2_ := Aside0.mk (hbox); have n3_ := ngw1 hg HB GE718; have n4_ := n3_; have n5_ := nlt hg BK718; have n6_ := nsy (nlt hg BK718); clear BK718; clear HB; have BK718 := n0_; have HB := n1_; have BK719 := n2_; have GW719 := n3_; have GE719 := n4_; have NB718_719 := n5_; have NB719_718 := n6_; clear n0_ n1_ n2_ n3_ n4_ n5_ n6_; clear hb hbox hg))
  have n0_ := Aside0.mk (blk_drew BK718.out)
  have n1_ := Aside0.mk (blk_drew BK719.out)
  have n2_ := Aside0.mk (below_drew1 HB.out)
  clear BK718
  clear BK719
  clear HB
  have BK718 := n0_
  have BK719 := n1_
  have HB := n2_
  clear n0_ n1_ n2_
  refine start_ (n := 8) (S := fun w' => w'.cell? ⟨gb718, 0, none⟩ = some (.int .i64 a1_0) ∧ w'.cell? ⟨gb718, 1, none⟩ = some (.int .i64 a1_1) ∧ w'.cell? ⟨gb718, 2, none⟩ = some (.int .i64 a1_2) ∧ w'.cell? ⟨gb719, 0, none⟩ = some (.int .i64 a2_0) ∧ w'.cell? ⟨gb719, 1, none⟩ = some (.int .i64 a2_1) ∧ w'.cell? ⟨gb719, 2, none⟩ = some (.int .i64 a2_2) ∧ w'.cell? ⟨gb719, 3, none⟩ = some (.int .i64 a2_3) ∧ w'.cell? ⟨gb719, 4, none⟩ = some (.int .i64 a2_4) ∧ w'.cell? ⟨gb719, 5, none⟩ = some (.int .i64 a2_5)) (ds := []) #[false, false, false, false, false, false, false, false] (by kernel_rfl) rfl rfl ⟨bcl BK718 0, bcl BK718 1, bcl BK718 2, bcl BK719 0, bcl BK719 1, bcl BK719 2, bcl BK719 3, bcl BK719 4, bcl BK719 5⟩ (fun hHeld => ?_); refine with_tabW spec_MayReflect.tab1 spec_MayReflect.bits1 (fun HT_ HW_ => ?_)
  generalize w30.drew = w31 at BK718 BK719 HB hHeld ⊢
  refine pure_ (i := 0) (N := some 9) (v := ?_) (a' := ?_) #[true, false, false, false, false, false, false, false] rfl rfl (any_of HT_.out (by kernel_rfl)) (fun _ _ _ h => h) (Or.inl ⟨by rfl, ?_⟩) ?_ ?_
  rotate_left
  ·intro w'
   go_simp
   with_reducible rfl
  rotate_left
  ·simp only [Act.put, sA, sB, sC, i64_w, i32_w]
   rfl
  refine pure_ (i := 2) (N := some 11) (v := ?_) (a' := ?_) #[true, false, true, false, false, false, false, false] rfl rfl (any_of HT_.out (by kernel_rfl)) (fun _ _ _ h => h) (Or.inl ⟨by rfl, ?_⟩) ?_ ?_
  rotate_left
  ·intro w'
   go_simp
   with_reducible rfl
  rotate_left
  ·simp only [Act.put, sA, sB, sC, i64_w, i32_w]
   rfl
  refine take_ (i := 1) (N := some 10) (v := ?_) (a' := ?_) #[true, true, true, false, false, false, false, false] rfl rfl (take_ofW HT_.out HW_.out (by kernel_rfl)) (fun _ _ _ h => h) (Or.inl ⟨by rfl, ?_⟩) hHeld ?_ ?_
  rotate_left
  ·rintro w' ⟨s0, s1, s2, s3, s4, s5, s6, s7, s8⟩
   go_simp
   with_reducible rfl
  rotate_left
  ·simp only [Act.put, sA, sB, sC, i64_w, i32_w]
   rfl
  refine take_ (i := 3) (N := some 12) (v := ?_) (a' := ?_) #[true, true, true, true, false, false, false, false] rfl rfl (take_ofW HT_.out HW_.out (by kernel_rfl)) (fun _ _ _ h => h) (Or.inl ⟨by rfl, ?_⟩) hHeld ?_ ?_
  rotate_left
  ·rintro w' ⟨s0, s1, s2, s3, s4, s5, s6, s7, s8⟩
   go_simp
   with_reducible rfl
  rotate_left
  ·simp only [Act.put, sA, sB, sC, i64_w, i32_w]
   rfl
  refine take_ (i := 4) (N := some 13) (v := ?_) (a' := ?_) #[true, true, true, true, true, false, false, false] rfl rfl (take_ofW HT_.out HW_.out (by kernel_rfl)) (fun _ _ _ h => h) (Or.inl ⟨by rfl, ?_⟩) hHeld ?_ ?_
  rotate_left
  ·rintro w' ⟨s0, s1, s2, s3, s4, s5, s6, s7, s8⟩
   go_simp
   with_reducible rfl
  rotate_left
  ·simp only [Act.put, sA, sB, sC, i64_w, i32_w]
   rfl
  refine one_ (i := 5) (N := some 14) #[true, true, true, true, true, true, false, false] rfl rfl (one_of HT_.out (by kernel_rfl)) (by decide) (fun K hK => ?_)
  refine goes_ Try.func11 (by kernel_rfl) rfl #[.int .i64 a0, .agg #[.int .i64 a1_0, .int .i64 a1_1, .int .i64 a1_2], .agg #[.int .i64 a2_0, .int .i64 a2_1, .int .i64 a2_2, .int .i64 a2_3, .int .i64 a2_4, .int .i64 a2_5]] (by rfl) rfl rfl (by (try simp only [List.map_toArray, List.map_cons, List.map_nil]); first | done | rfl | (simp only [List.length_drop, List.length_take]; rfl)) ?_
  with_reducible refine (spec_IsSuitable.calls k a0 a1_0 a1_1 a1_2 a2_0 a2_1 a2_2 a2_3 a2_4 a2_5 t720 _ A4.out).mono ?_
  rintro e w32 ⟨rfl, hb⟩
  refine ⟨_, rfl, ?_⟩
  have n0_ := Aside0.mk (bbl BK718 hb)
  have n1_ := Aside0.mk (bbl BK719 hb)
  have n2_ := Aside0.mk (bst2 HB GE718 GE719 hb)
  clear BK718
  clear BK719
  clear HB
  have BK718 := n0_
  have BK719 := n1_
  have HB := n2_
  clear n0_ n1_ n2_
  (try clear hb)
  (try clear hb2)
  (try clear hk)
  (try clear hi)
  refine hK.out _ _ ⟨bcl BK718 0, bcl BK718 1, bcl BK718 2, bcl BK719 0, bcl BK719 1, bcl BK719 2, bcl BK719 3, bcl BK719 4, bcl BK719 5⟩ (fun hHeld => ?_)
  clear hK K
  refine norm_ (a' := ?_) ?_ ?_
  rotate_left
  ·show Act.put _ (some 14) _ = _
   simp only [Act.put, sA, sB, sC, i64_w, i32_w]
   rfl
  refine one_ (i := 6) (N := some 15) #[true, true, true, true, true, true, true, false] rfl rfl (one_of HT_.out (by kernel_rfl)) (by decide) (fun K hK => ?_)
  refine goes_ Try.func45 (by kernel_rfl) rfl #[.int .i64 a0, .agg #[.int .i64 a1_0, .int .i64 a1_1, .int .i64 a1_2], .bool t720] (by rfl) rfl rfl (by (try simp only [List.map_toArray, List.map_cons, List.map_nil]); first | done | rfl | (simp only [List.length_drop, List.length_take]; rfl)) ?_
  with_reducible refine (spec_l06Code.calls a0 a1_0 a1_1 a1_2 t720 t721 _ A5.out).mono ?_
  rintro e w33 ⟨rfl, hb⟩
  refine ⟨_, rfl, ?_⟩
  have n0_ := Aside0.mk (bbl BK718 hb)
  have n1_ := Aside0.mk (bbl BK719 hb)
  have n2_ := Aside0.mk (bst2 HB GE718 GE719 hb)
  clear BK718
  clear BK719
  clear HB
  have BK718 := n0_
  have BK719 := n1_
  have HB := n2_
  clear n0_ n1_ n2_
  (try clear hb)
  (try clear hb2)
  (try clear hk)
  (try clear hi)
  refine hK.out _ _ ⟨bcl BK718 0, bcl BK718 1, bcl BK718 2, bcl BK719 0, bcl BK719 1, bcl BK719 2, bcl BK719 3, bcl BK719 4, bcl BK719 5⟩ (fun hHeld => ?_)
  clear hK K
  refine norm_ (a' := ?_) ?_ ?_
  rotate_left
  ·show Act.put _ (some 15) _ = _
   simp only [Act.put, sA, sB, sC, i64_w, i32_w]
   rfl
  refine pure_ (i := 7) (N := some 8) (v := ?_) (a' := ?_) #[true, true, true, true, true, true, true, true] rfl rfl (any_of HT_.out (by kernel_rfl)) (fun _ _ _ h => h) (Or.inl ⟨by rfl, ?_⟩) ?_ ?_
  rotate_left
  ·intro w'
   go_simp
   with_reducible rfl
  rotate_left
  ·simp only [Act.put, sA, sB, sC, i64_w, i32_w]
   rfl
  refine done_ (done_of HT_.out (by kernel_rfl)) ?_
  try go_wp2
  go_ret2
  exact ⟨by first | rfl | (simp [errW_none, errW_some] <;> rfl) | (simp [*, errW_none, errW_some] <;> rfl), bbw2 HB GE718 GE719⟩

/-! ### impl_alongAxis: function 104 -/
def impl_alongAxis.f (k : Nat) (a0_0 : Int) (a0_1 : Int) (a0_2 : Int) (a0_3 : Int) (a1_0 : Int) (a1_1 : Int) : Option (Int) := (impl_Mat_apply.f a0_0 a0_1 a0_2 a0_3 a1_0 a1_1).bind fun bt726 => ((impl_Vec_add.f a1_0 a1_1 bt726.1 bt726.2).bind fun bt728 => ((impl_Mat_axis.f k a0_0 a0_1 a0_2 a0_3).bind fun bt730 => (if bt730.1 = 0 then (if bt730.2 = 0 then (none) else (some (wrap64 (Int.tdiv bt728.2 bt730.2)))) else (some (wrap64 (Int.tdiv bt728.1 bt730.1))))))
def impl_alongAxis.T1 : Bool × List (List Nat × List Nat) := (true, [([], []), ([], []), ([], []), ([1, 2], [1, 2]), ([0, 3, 3], [0, 3]), ([], []), ([5, 4], [5]), ([], []), ([], []), ([7, 4, 6, 0, 1, 2, 3, 4, 7, 8], [4, 7]), ([8, 6, 9, 0, 1, 2, 3, 4, 5, 6, 7, 8, 9], [6, 8])])
def impl_alongAxis.B1 : List Nat := [0, 0, 0, 6, 15, 0, 63, 0, 0, 511, 1023]
theorem impl_alongAxis.tab1 : rtab .any (opsOf Try.f104 1) = impl_alongAxis.T1 := by kernel_rfl
theorem impl_alongAxis.bits1 : waitsOk impl_alongAxis.T1.2 impl_alongAxis.B1 = true := by kernel_rfl
set_option maxHeartbeats 8000000 in
set_option maxRecDepth 100000 in
theorem impl_alongAxis.calls (k : Nat) (a0_0 : Int) (a0_1 : Int) (a0_2 : Int) (a0_3 : Int) (a1_0 : Int) (a1_1 : Int) (r : Int) (w : World) (h : impl_alongAxis.f k a0_0 a0_1 a0_2 a0_3 a1_0 a1_1 = some r) :
  Calls Try.prog 104 #[.agg #[.int .i64 a0_0, .int .i64 a0_1, .int .i64 a0_2, .int .i64 a0_3], .agg #[.int .i64 a1_0, .int .i64 a1_1]] w fun e w' => e = .returned (.int .i64 r) ∧ Below w.heap.size w w' := by
 have hu33 := Try.underlying33
 have hu34 := Try.underlying34
 have HB := Aside0.mk (Below.refl w.heap.size w)
 have H : ((impl_Mat_apply.f a0_0 a0_1 a0_2 a0_3 a1_0 a1_1).bind fun bt726 => ((impl_Vec_add.f a1_0 a1_1 bt726.1 bt726.2).bind fun bt728 => ((impl_Mat_axis.f k a0_0 a0_1 a0_2 a0_3).bind fun bt730 => (if bt730.1 = 0 then (if bt730.2 = 0 then (none) else (some (wrap64 (Int.tdiv bt728.2 bt730.2)))) else (some (wrap64 (Int.tdiv bt728.1 bt730.1))))))) = some r := h
 clear h
 replace H := Option.bind_eq_some_iff.mp H
 obtain ⟨⟨t726, t727⟩, A30, H⟩ := H
 replace H : ((impl_Vec_add.f a1_0 a1_1 t726 t727).bind fun bt728 => ((impl_Mat_axis.f k a0_0 a0_1 a0_2 a0_3).bind fun bt730 => (if bt730.1 = 0 then (if bt730.2 = 0 then (none) else (some (wrap64 (Int.tdiv bt728.2 bt730.2)))) else (some (wrap64 (Int.tdiv bt728.1 bt730.1)))))) = some r := H
 have A3 := Aside0.mk A30
 clear A30
 replace H := Option.bind_eq_some_iff.mp H
 obtain ⟨⟨t728, t729⟩, A40, H⟩ := H
 replace H : ((impl_Mat_axis.f k a0_0 a0_1 a0_2 a0_3).bind fun bt730 => (if bt730.1 = 0 then (if bt730.2 = 0 then (none) else (some (wrap64 (Int.tdiv t729 bt730.2)))) else (some (wrap64 (Int.tdiv t728 bt730.1))))) = some r := H
 have A4 := Aside0.mk A40
 clear A40
 replace H := Option.bind_eq_some_iff.mp H
 obtain ⟨⟨t730, t731⟩, A50, H⟩ := H
 replace H : (if t730 = 0 then (if t731 = 0 then (none) else (some (wrap64 (Int.tdiv t729 t731)))) else (some (wrap64 (Int.tdiv t728 t730)))) = some r := H
 have A5 := Aside0.mk A50
 clear A50
 by_cases c6 : t730 = 0
 ·rw [if_pos c6] at H
  have c6b0 : (t730 == 0) = true := beq_iff_eq.mpr c6
  have c6b1 : (t730 != 0) = false := bne_eq_false_iff_eq.mpr c6
  clear c6
  by_cases c7 : t731 = 0
  ·rw [if_pos c7] at H
   exact absurd H (by simp)
  ·rw [if_neg c7] at H
   have c7b0 : (t731 == 0) = false := beq_eq_false_iff_ne.mpr c7
   have c7b1 : (t731 != 0) = true := bne_iff_ne.mpr c7
   obtain rfl := Option.some.inj H
   go_enter Try.func104, Try.ntmps104
   try go_wp2_with (first | ((with_reducible refine gate_dst (N := 2) rfl ?_); refine box_event ?hg (N := 2) ?hd (cs := #[.int .i64 a0_0, .int .i64 a0_1, .int .i64 a0_2, .int .i64 a0_3]) (t := 33) ?hr ?_; (case hd => rfl); (case hg => rfl); (case hr => first | (go_simp; done) | (go_simp; rfl)); intro gb724 hg w8 hbox hb; have n0_ := Aside0.mk (bst0 HB hb); have n1_ := Aside0.mk (hbox); have n2_ := ngw0 hg HB; have n3_ := n2_; clear HB; have HB := n0_; have BK724 := n1_; have GW724 := n2_; have GE724 := n3_; clear n0_ n1_ n2_ n3_; clear hb hbox hg) | ((with_reducible refine gate_dst (N := 3) rfl ?_); refine box_event ?hg (N := 3) ?hd (cs := #[.int .i64 a1_0, .int .i64 a1_1]) (t := 34) ?hr ?_; (case hd => rfl); (case hg => rfl); (case hr => first | (go_simp; done) | (go_simp; rfl)); intro gb725 hg w9 hbox hb; have n0_ := Aside0.mk (bbl BK724 hb); have n1_ := Aside0.mk (bst1 HB GE724 hb); have n2_ := Aside0.mk (hbox); have n3_ := ngw1 hg HB GE724; have n4_ := n3_; have n5_ := nlt hg BK724; have n6_ := nsy (nlt hg BK724); clear BK724; clear HB; have BK724 := n0_; have HB := n1_; have BK725 := n2_; have GW725 := n3_; have GE725 := n4_; have NB724_725 := n5_; have NB725_724 := n6_; clear n0_ n1_ n2_ n3_ n4_ n5_ n6_; clear hb hbox hg))
   have n0_ := Aside0.mk (blk_drew BK724.out)
   have n1_ := Aside0.mk (blk_drew BK725.out)
   have n2_ := Aside0.mk (below_drew1 HB.out)
   clear BK724
   clear BK725
   clear HB
   have BK724 := n0_
   have BK725 := n1_
   have HB := n2_
   clear n0_ n1_ n2_
   refine start_ (n := 11) (S := fun w' => True) (ds := []) #[false, false, false, false, false, false, false, false, false, false, false] (by kernel_rfl) rfl rfl trivial (fun hHeld => ?_); refine with_tabW impl_alongAxis.tab1 impl_alongAxis.bits1 (fun HT_ HW_ => ?_)
   generalize w9.drew = w10 at BK724 BK725 HB hHeld ⊢
   refine inv_at [0, 1, 2, 3, 4, 5, 6, 7, 8, 9, 10] (fun a0_ b a w' => ∃ (gb732 : Nat) (gb733 : Nat) (m7_ : Value) (m8_ : Value), a = putSel a0_ b [(0, 7, .agg #[.int .i64 a1_0, .int .i64 a1_1]), (1, 8, .agg #[.int .i64 a0_0, .int .i64 a0_1, .int .i64 a0_2, .int .i64 a0_3]), (2, 9, .agg #[.int .i64 a1_0, .int .i64 a1_1]), (3, 10, .agg #[.int .i64 t726, .int .i64 t727]), (4, 11, .agg #[.int .i64 t728, .int .i64 t729]), (5, 12, .agg #[.int .i64 a0_0, .int .i64 a0_1, .int .i64 a0_2, .int .i64 a0_3]), (6, 13, .agg #[.int .i64 t730, .int .i64 t731]), (7, 5, m7_), (8, 6, m8_)] ∧ (w'.heap[gb724]? = some (.cells #[.int .i64 a0_0, .int .i64 a0_1, .int .i64 a0_2, .int .i64 a0_3] 33 (0, 0))) ∧ (w'.heap[gb725]? = some (.cells #[.int .i64 a1_0, .int .i64 a1_1] 34 (0, 0))) ∧ (Below w.heap.size w w') ∧ (b 7 = true → b 8 = true → gb733 ≠ gb732) ∧ (b 7 = true → b 8 = true → gb732 ≠ gb733) ∧ (b 7 = true → b 9 = false → w'.heap[gb732]? = some (.cells #[.int .i64 0, .int .i64 0] 34 (0, 0))) ∧ (b 7 = true → w.heap.size ≤ gb732) ∧ (b 7 = true → w.heap.size ≤ gb732) ∧ (b 7 = true → gb724 ≠ gb732) ∧ (b 7 = true → gb732 ≠ gb724) ∧ (b 7 = true → gb725 ≠ gb732) ∧ (b 7 = true → gb732 ≠ gb725) ∧ (b 8 = true → b 10 = false → w'.heap[gb733]? = some (.cells #[.int .i64 0, .int .i64 0] 34 (0, 0))) ∧ (b 8 = true → w.heap.size ≤ gb733) ∧ (b 8 = true → w.heap.size ≤ gb733) ∧ (b 8 = true → gb724 ≠ gb733) ∧ (b 8 = true → gb733 ≠ gb724) ∧ (b 8 = true → gb725 ≠ gb733) ∧ (b 8 = true → gb733 ≠ gb725) ∧ (b 9 = true → w'.heap[gb732]? = some (.cells #[.int .i64 t728, .int .i64 t729] 34 (0, 0))) ∧ (b 10 = true → w'.heap[gb733]? = some (.cells #[.int .i64 t730, .int .i64 t731] 34 (0, 0))) ∧ (b 7 = true → (m7_ : Value) = .pointer (some ⟨gb732, 0, none⟩)) ∧ (b 8 = true → (m8_ : Value) = .pointer (some ⟨gb733, 0, none⟩))) HT_.out HW_.out (by kernel_rfl) (by kernel_rfl) ?_ ?_ ?_
   ·exact ⟨0, 0, .bool false, .bool false, by simp only [putSel, Bool.false_eq_true, if_false], BK724.out, BK725.out, HB.out, fun h_ => absurd h_ (by decide), fun h_ => absurd h_ (by decide), fun h_ => absurd h_ (by decide), fun h_ => absurd h_ (by decide), fun h_ => absurd h_ (by decide), fun h_ => absurd h_ (by decide), fun h_ => absurd h_ (by decide), fun h_ => absurd h_ (by decide), fun h_ => absurd h_ (by decide), fun h_ => absurd h_ (by decide), fun h_ => absurd h_ (by decide), fun h_ => absurd h_ (by decide), fun h_ => absurd h_ (by decide), fun h_ => absurd h_ (by decide), fun h_ => absurd h_ (by decide), fun h_ => absurd h_ (by decide), fun h_ => absurd h_ (by decide), fun h_ => absurd h_ (by decide), fun h_ => absurd h_ (by decide), fun h_ => absurd h_ (by decide)⟩
   ·skip
    clear BK724 BK725 HB
    refine steps_cons ?_ ?_
    ·rintro b a w' ⟨gb732, gb733, m7_, m8_, ha, Q_BK724, Q_BK725, Q_HB, Q_NB733_732, Q_NB732_733, Q_BK732, Q_GW732, Q_GE732, Q_NB724_732, Q_NB732_724, Q_NB725_732, Q_NB732_725, Q_BK733, Q_GW733, Q_GE733, Q_NB724_733, Q_NB733_724, Q_NB725_733, Q_NB733_725, Q_BK732_e9, Q_BK733_e10, Q_X7_, Q_X8_⟩ hb_ hon hoff
     refine ⟨_, rfl, fun K hK => ?_⟩
     have e3 : a.tmps[3]? = some (.pointer (some ⟨gb725, 0, none⟩)) := by rw [ha]; exact (putSel_off rfl).trans rfl
     replace ha := Aside0.mk ha
     have BK724 := Aside0.mk Q_BK724
     have BK725 := Aside0.mk Q_BK725
     have HB := Aside0.mk Q_HB
     have hc0_ : w'.cell? ⟨gb725, 0, none⟩ = some (.int .i64 a1_0) := bcl BK725 0
     have hc1_ : w'.cell? ⟨gb725, 1, none⟩ = some (.int .i64 a1_1) := bcl BK725 1
     refine value_ (w1 := w') (v := .agg #[.int .i64 a1_0, .int .i64 a1_1]) (by rfl) rfl ?_ ?_
     ·go_simp
      (try simp only [i64_w])
      try rfl
     refine hK.out _ _ ⟨gb732, gb733, m7_, m8_, (by rw [ha.out]; exact putSel_upk 0 hb_ rfl rfl rfl), Q_BK724, Q_BK725, Q_HB, Q_NB733_732, Q_NB732_733, Q_BK732, Q_GW732, Q_GE732, Q_NB724_732, Q_NB732_724, Q_NB725_732, Q_NB732_725, Q_BK733, Q_GW733, Q_GE733, Q_NB724_733, Q_NB733_724, Q_NB725_733, Q_NB733_725, fun h0_ => absurd ((hoff 9 (by kernel_rfl)).symm.trans h0_) (by decide), fun h0_ => absurd ((hoff 10 (by kernel_rfl)).symm.trans h0_) (by decide), Q_X7_, Q_X8_⟩
    refine steps_cons ?_ ?_
    ·rintro b a w' ⟨gb732, gb733, m7_, m8_, ha, Q_BK724, Q_BK725, Q_HB, Q_NB733_732, Q_NB732_733, Q_BK732, Q_GW732, Q_GE732, Q_NB724_732, Q_NB732_724, Q_NB725_732, Q_NB732_725, Q_BK733, Q_GW733, Q_GE733, Q_NB724_733, Q_NB733_724, Q_NB725_733, Q_NB733_725, Q_BK732_e9, Q_BK733_e10, Q_X7_, Q_X8_⟩ hb_ hon hoff
     refine ⟨_, rfl, fun K hK => ?_⟩
     have e2 : a.tmps[2]? = some (.pointer (some ⟨gb724, 0, none⟩)) := by rw [ha]; exact (putSel_off rfl).trans rfl
     replace ha := Aside0.mk ha
     have BK724 := Aside0.mk Q_BK724
     have BK725 := Aside0.mk Q_BK725
     have HB := Aside0.mk Q_HB
     have hc0_ : w'.cell? ⟨gb724, 0, none⟩ = some (.int .i64 a0_0) := bcl BK724 0
     have hc1_ : w'.cell? ⟨gb724, 1, none⟩ = some (.int .i64 a0_1) := bcl BK724 1
     have hc2_ : w'.cell? ⟨gb724, 2, none⟩ = some (.int .i64 a0_2) := bcl BK724 2
     have hc3_ : w'.cell? ⟨gb724, 3, none⟩ = some (.int .i64 a0_3) := bcl BK724 3
     refine value_ (w1 := w') (v := .agg #[.int .i64 a0_0, .int .i64 a0_1, .int .i64 a0_2, .int .i64 a0_3]) (by rfl) rfl ?_ ?_
     ·go_simp
      (try simp only [i64_w])
      try rfl
     refine hK.out _ _ ⟨gb732, gb733, m7_, m8_, (by rw [ha.out]; exact putSel_upk 1 hb_ rfl rfl rfl), Q_BK724, Q_BK725, Q_HB, Q_NB733_732, Q_NB732_733, Q_BK732, Q_GW732, Q_GE732, Q_NB724_732, Q_NB732_724, Q_NB725_732, Q_NB732_725, Q_BK733, Q_GW733, Q_GE733, Q_NB724_733, Q_NB733_724, Q_NB725_733, Q_NB733_725, fun h0_ => absurd ((hoff 9 (by kernel_rfl)).symm.trans h0_) (by decide), fun h0_ => absurd ((hoff 10 (by kernel_rfl)).symm.trans h0_) (by decide), Q_X7_, Q_X8_⟩
    refine steps_cons ?_ ?_
    ·rintro b a w' ⟨gb732, gb733, m7_, m8_, ha, Q_BK724, Q_BK725, Q_HB, Q_NB733_732, Q_NB732_733, Q_BK732, Q_GW732, Q_GE732, Q_NB724_732, Q_NB732_724, Q_NB725_732, Q_NB732_725, Q_BK733, Q_GW733, Q_GE733, Q_NB724_733, Q_NB733_724, Q_NB725_733, Q_NB733_725, Q_BK732_e9, Q_BK733_e10, Q_X7_, Q_X8_⟩ hb_ hon hoff
     refine ⟨_, rfl, fun K hK => ?_⟩
     have e3 : a.tmps[3]? = some (.pointer (some ⟨gb725, 0, none⟩)) := by rw [ha]; exact (putSel_off rfl).trans rfl
     replace ha := Aside0.mk ha
     have BK724 := Aside0.mk Q_BK724
     have BK725 := Aside0.mk Q_BK725
     have HB := Aside0.mk Q_HB
     have hc0_ : w'.cell? ⟨gb725, 0, none⟩ = some (.int .i64 a1_0) := bcl BK725 0
     have hc1_ : w'.cell? ⟨gb725, 1, none⟩ = some (.int .i64 a1_1) := bcl BK725 1
     refine value_ (w1 := w') (v := .agg #[.int .i64 a1_0, .int .i64 a1_1]) (by rfl) rfl ?_ ?_
     ·go_simp
      (try simp only [i64_w])
      try rfl
     refine hK.out _ _ ⟨gb732, gb733, m7_, m8_, (by rw [ha.out]; exact putSel_upk 2 hb_ rfl rfl rfl), Q_BK724, Q_BK725, Q_HB, Q_NB733_732, Q_NB732_733, Q_BK732, Q_GW732, Q_GE732, Q_NB724_732, Q_NB732_724, Q_NB725_732, Q_NB732_725, Q_BK733, Q_GW733, Q_GE733, Q_NB724_733, Q_NB733_724, Q_NB725_733, Q_NB733_725, fun h0_ => absurd ((hoff 9 (by kernel_rfl)).symm.trans h0_) (by decide), fun h0_ => absurd ((hoff 10 (by kernel_rfl)).symm.trans h0_) (by decide), Q_X7_, Q_X8_⟩
    refine steps_cons ?_ ?_
    ·rintro b a w' ⟨gb732, gb733, m7_, m8_, ha, Q_BK724, Q_BK725, Q_HB, Q_NB733_732, Q_NB732_733, Q_BK732, Q_GW732, Q_GE732, Q_NB724_732, Q_NB732_724, Q_NB725_732, Q_NB732_725, Q_BK733, Q_GW733, Q_GE733, Q_NB724_733, Q_NB733_724, Q_NB725_733, Q_NB733_725, Q_BK732_e9, Q_BK733_e10, Q_X7_, Q_X8_⟩ hb_ hon hoff
     refine ⟨_, rfl, fun K hK => ?_⟩
     have e8 : a.tmps[8]? = some (.agg #[.int .i64 a0_0, .int .i64 a0_1, .int .i64 a0_2, .int .i64 a0_3]) := by rw [ha]; exact putSel_on (e := (1, 8, .agg #[.int .i64 a0_0, .int .i64 a0_1, .int .i64 a0_2, .int .i64 a0_3])) 1 rfl rfl (hon 1 (by kernel_rfl)) rfl
     have e9 : a.tmps[9]? = some (.agg #[.int .i64 a1_0, .int .i64 a1_1]) := by rw [ha]; exact putSel_on (e := (2, 9, .agg #[.int .i64 a1_0, .int .i64 a1_1])) 2 rfl rfl (hon 2 (by kernel_rfl)) rfl
     replace ha := Aside0.mk ha
     have BK724 := Aside0.mk Q_BK724
     have BK725 := Aside0.mk Q_BK725
     have HB := Aside0.mk Q_HB
     refine goes_ Try.func124 (by kernel_rfl) rfl #[.agg #[.int .i64 a0_0, .int .i64 a0_1, .int .i64 a0_2, .int .i64 a0_3], .agg #[.int .i64 a1_0, .int .i64 a1_1]] (by rfl) rfl rfl (by first | (simp only [List.map_toArray, List.map_cons, List.map_nil, Act.eval, Array.getD_eq_getD_getElem?, Option.getD_some, e8, e9]; done) | (simp only [List.map_toArray, List.map_cons, List.map_nil, Act.eval, Array.getD_eq_getD_getElem?, Option.getD_some, e8, e9]; rfl)) ?_
     with_reducible refine (impl_Mat_apply.calls a0_0 a0_1 a0_2 a0_3 a1_0 a1_1 t726 t727 _ A3.out).mono ?_
     rintro e w11 ⟨rfl, hb⟩
     refine ⟨_, rfl, ?_⟩
     have n0_ := Aside0.mk (bbl BK724 hb)
     have n1_ := Aside0.mk (bbl BK725 hb)
     have n2_ := Aside0.mk (bst2 HB GE724 GE725 hb)
     have z_BK732 := fun (h0_ : b 7 = true) (h1_ : b 9 = false) => (show w11.heap[gb732]? = some (.cells #[.int .i64 0, .int .i64 0] 34 (0, 0)) from by first | exact (blk_below (g := gb732) (o := .cells #[.int .i64 0, .int .i64 0] 34 (0, 0)) (by (with_reducible repeat (first | refine blk_drewN ?_ _ | refine blk_drew ?_ | refine blk_alloc ?_ _)); exact (Q_BK732 h0_ h1_)) hb))
     have z_BK733 := fun (h0_ : b 8 = true) (h1_ : b 10 = false) => (show w11.heap[gb733]? = some (.cells #[.int .i64 0, .int .i64 0] 34 (0, 0)) from by first | exact (blk_below (g := gb733) (o := .cells #[.int .i64 0, .int .i64 0] 34 (0, 0)) (by (with_reducible repeat (first | refine blk_drewN ?_ _ | refine blk_drew ?_ | refine blk_alloc ?_ _)); exact (Q_BK733 h0_ h1_)) hb))
     clear BK724
     clear BK725
     clear HB
     have BK724 := n0_
     have BK725 := n1_
     have HB := n2_
     clear n0_ n1_ n2_
     (try clear hb)
     (try clear hb2)
     (try clear hk)
     (try clear hi)
     refine hK.out _ _ ⟨gb732, gb733, m7_, m8_, (by rw [ha.out]; exact putSel_upk 3 hb_ rfl rfl rfl), (bkp BK724), (bkp BK725), (bbw2 HB GE724 GE725), Q_NB733_732, Q_NB732_733, z_BK732, Q_GW732, Q_GE732, Q_NB724_732, Q_NB732_724, Q_NB725_732, Q_NB732_725, z_BK733, Q_GW733, Q_GE733, Q_NB724_733, Q_NB733_724, Q_NB725_733, Q_NB733_725, fun h0_ => absurd ((hoff 9 (by kernel_rfl)).symm.trans h0_) (by decide), fun h0_ => absurd ((hoff 10 (by kernel_rfl)).symm.trans h0_) (by decide), Q_X7_, Q_X8_⟩
    refine steps_cons ?_ ?_
    ·rintro b a w' ⟨gb732, gb733, m7_, m8_, ha, Q_BK724, Q_BK725, Q_HB, Q_NB733_732, Q_NB732_733, Q_BK732, Q_GW732, Q_GE732, Q_NB724_732, Q_NB732_724, Q_NB725_732, Q_NB732_725, Q_BK733, Q_GW733, Q_GE733, Q_NB724_733, Q_NB733_724, Q_NB725_733, Q_NB733_725, Q_BK732_e9, Q_BK733_e10, Q_X7_, Q_X8_⟩ hb_ hon hoff
     refine ⟨_, rfl, fun K hK => ?_⟩
     have e7 : a.tmps[7]? = some (.agg #[.int .i64 a1_0, .int .i64 a1_1]) := by rw [ha]; exact putSel_on (e := (0, 7, .agg #[.int .i64 a1_0, .int .i64 a1_1])) 0 rfl rfl (hon 0 (by kernel_rfl)) rfl
     have e10 : a.tmps[10]? = some (.agg #[.int .i64 t726, .int .i64 t727]) := by rw [ha]; exact putSel_on (e := (3, 10, .agg #[.int .i64 t726, .int .i64 t727])) 3 rfl rfl (hon 3 (by kernel_rfl)) rfl
     replace ha := Aside0.mk ha
     have BK724 := Aside0.mk Q_BK724
     have BK725 := Aside0.mk Q_BK725
     have HB := Aside0.mk Q_HB
     refine goes_ Try.func94 (by kernel_rfl) rfl #[.agg #[.int .i64 a1_0, .int .i64 a1_1], .agg #[.int .i64 t726, .int .i64 t727]] (by rfl) rfl rfl (by first | (simp only [List.map_toArray, List.map_cons, List.map_nil, Act.eval, Array.getD_eq_getD_getElem?, Option.getD_some, e7, e10]; done) | (simp only [List.map_toArray, List.map_cons, List.map_nil, Act.eval, Array.getD_eq_getD_getElem?, Option.getD_some, e7, e10]; rfl)) ?_
     with_reducible refine (impl_Vec_add.calls a1_0 a1_1 t726 t727 t728 t729 _ A4.out).mono ?_
     rintro e w13 ⟨rfl, hb⟩
     refine ⟨_, rfl, ?_⟩
     have n0_ := Aside0.mk (bbl BK724 hb)
     have n1_ := Aside0.mk (bbl BK725 hb)
     have n2_ := Aside0.mk (bst2 HB GE724 GE725 hb)
     have z_BK732 := fun (h0_ : b 7 = true) (h1_ : b 9 = false) => (show w13.heap[gb732]? = some (.cells #[.int .i64 0, .int .i64 0] 34 (0, 0)) from by first | exact (blk_below (g := gb732) (o := .cells #[.int .i64 0, .int .i64 0] 34 (0, 0)) (by (with_reducible repeat (first | refine blk_drewN ?_ _ | refine blk_drew ?_ | refine blk_alloc ?_ _)); exact (Q_BK732 h0_ h1_)) hb))
     have z_BK733 := fun (h0_ : b 8 = true) (h1_ : b 10 = false) => (show w13.heap[gb733]? = some (.cells #[.int .i64 0, .int .i64 0] 34 (0, 0)) from by first | exact (blk_below (g := gb733) (o := .cells #[.int .i64 0, .int .i64 0] 34 (0, 0)) (by (with_reducible repeat (first | refine blk_drewN ?_ _ | refine blk_drew ?_ | refine blk_alloc ?_ _)); exact (Q_BK733 h0_ h1_)) hb))
     clear BK724
     clear BK725
     clear HB
     have BK724 := n0_
     have BK725 := n1_
     have HB := n2_
     clear n0_ n1_ n2_
     (try clear hb)
     (try clear hb2)
     (try clear hk)
     (try clear hi)
     refine hK.out _ _ ⟨gb732, gb733, m7_, m8_, (by rw [ha.out]; exact putSel_upk 4 hb_ rfl rfl rfl), (bkp BK724), (bkp BK725), (bbw2 HB GE724 GE725), Q_NB733_732, Q_NB732_733, z_BK732, Q_GW732, Q_GE732, Q_NB724_732, Q_NB732_724, Q_NB725_732, Q_NB732_725, z_BK733, Q_GW733, Q_GE733, Q_NB724_733, Q_NB733_724, Q_NB725_733, Q_NB733_725, fun h0_ => absurd ((hoff 9 (by kernel_rfl)).symm.trans h0_) (by decide), fun h0_ => absurd ((hoff 10 (by kernel_rfl)).symm.trans h0_) (by decide), Q_X7_, Q_X8_⟩
    refine steps_cons ?_ ?_
    ·rintro b a w' ⟨gb732, gb733, m7_, m8_, ha, Q_BK724, Q_BK725, Q_HB, Q_NB733_732, Q_NB732_733, Q_BK732, Q_GW732, Q_GE732, Q_NB724_732, Q_NB732_724, Q_NB725_732, Q_NB732_725, Q_BK733, Q_GW733, Q_GE733, Q_NB724_733, Q_NB733_724, Q_NB725_733, Q_NB733_725, Q_BK732_e9, Q_BK733_e10, Q_X7_, Q_X8_⟩ hb_ hon hoff
     refine ⟨_, rfl, fun K hK => ?_⟩
     have e2 : a.tmps[2]? = some (.pointer (some ⟨gb724, 0, none⟩)) := by rw [ha]; exact (putSel_off rfl).trans rfl
     replace ha := Aside0.mk ha
     have BK724 := Aside0.mk Q_BK724
     have BK725 := Aside0.mk Q_BK725
     have HB := Aside0.mk Q_HB
     have hc0_ : w'.cell? ⟨gb724, 0, none⟩ = some (.int .i64 a0_0) := bcl BK724 0
     have hc1_ : w'.cell? ⟨gb724, 1, none⟩ = some (.int .i64 a0_1) := bcl BK724 1
     have hc2_ : w'.cell? ⟨gb724, 2, none⟩ = some (.int .i64 a0_2) := bcl BK724 2
     have hc3_ : w'.cell? ⟨gb724, 3, none⟩ = some (.int .i64 a0_3) := bcl BK724 3
     refine value_ (w1 := w') (v := .agg #[.int .i64 a0_0, .int .i64 a0_1, .int .i64 a0_2, .int .i64 a0_3]) (by rfl) rfl ?_ ?_
     ·go_simp
      (try simp only [i64_w])
      try rfl
     refine hK.out _ _ ⟨gb732, gb733, m7_, m8_, (by rw [ha.out]; exact putSel_upk 5 hb_ rfl rfl rfl), Q_BK724, Q_BK725, Q_HB, Q_NB733_732, Q_NB732_733, Q_BK732, Q_GW732, Q_GE732, Q_NB724_732, Q_NB732_724, Q_NB725_732, Q_NB732_725, Q_BK733, Q_GW733, Q_GE733, Q_NB724_733, Q_NB733_724, Q_NB725_733, Q_NB733_725, fun h0_ => absurd ((hoff 9 (by kernel_rfl)).symm.trans h0_) (by decide), fun h0_ => absurd ((hoff 10 (by kernel_rfl)).symm.trans h0_) (by decide), Q_X7_, Q_X8_⟩
    refine steps_cons ?_ ?_
    ·rintro b a w' ⟨gb732, gb733, m7_, m8_, ha, Q_BK724, Q_BK725, Q_HB, Q_NB733_732, Q_NB732_733, Q_BK732, Q_GW732, Q_GE732, Q_NB724_732, Q_NB732_724, Q_NB725_732, Q_NB732_725, Q_BK733, Q_GW733, Q_GE733, Q_NB724_733, Q_NB733_724, Q_NB725_733, Q_NB733_725, Q_BK732_e9, Q_BK733_e10, Q_X7_, Q_X8_⟩ hb_ hon hoff
     refine ⟨_, rfl, fun K hK => ?_⟩
     have e12 : a.tmps[12]? = some (.agg #[.int .i64 a0_0, .int .i64 a0_1, .int .i64 a0_2, .int .i64 a0_3]) := by rw [ha]; exact putSel_on (e := (5, 12, .agg #[.int .i64 a0_0, .int .i64 a0_1, .int .i64 a0_2, .int .i64 a0_3])) 5 rfl rfl (hon 5 (by kernel_rfl)) rfl
     replace ha := Aside0.mk ha
     have BK724 := Aside0.mk Q_BK724
     have BK725 := Aside0.mk Q_BK725
     have HB := Aside0.mk Q_HB
     refine goes_ Try.func55 (by kernel_rfl) rfl #[.agg #[.int .i64 a0_0, .int .i64 a0_1, .int .i64 a0_2, .int .i64 a0_3]] (by rfl) rfl rfl (by first | (simp only [List.map_toArray, List.map_cons, List.map_nil, Act.eval, Array.getD_eq_getD_getElem?, Option.getD_some, e12]; done) | (simp only [List.map_toArray, List.map_cons, List.map_nil, Act.eval, Array.getD_eq_getD_getElem?, Option.getD_some, e12]; rfl)) ?_
     with_reducible refine (impl_Mat_axis.calls k a0_0 a0_1 a0_2 a0_3 t730 t731 _ A5.out).mono ?_
     rintro e w14 ⟨rfl, hb⟩
     refine ⟨_, rfl, ?_⟩
     have n0_ := Aside0.mk (bbl BK724 hb)
     have n1_ := Aside0.mk (bbl BK725 hb)
     have n2_ := Aside0.mk (bst2 HB GE724 GE725 hb)
     have z_BK732 := fun (h0_ : b 7 = true) (h1_ : b 9 = false) => (show w14.heap[gb732]? = some (.cells #[.int .i64 0, .int .i64 0] 34 (0, 0)) from by first | exact (blk_below (g := gb732) (o := .cells #[.int .i64 0, .int .i64 0] 34 (0, 0)) (by (with_reducible repeat (first | refine blk_drewN ?_ _ | refine blk_drew ?_ | refine blk_alloc ?_ _)); exact (Q_BK732 h0_ h1_)) hb))
     have z_BK733 := fun (h0_ : b 8 = true) (h1_ : b 10 = false) => (show w14.heap[gb733]? = some (.cells #[.int .i64 0, .int .i64 0] 34 (0, 0)) from by first | exact (blk_below (g := gb733) (o := .cells #[.int .i64 0, .int .i64 0] 34 (0, 0)) (by (with_reducible repeat (first | refine blk_drewN ?_ _ | refine blk_drew ?_ | refine blk_alloc ?_ _)); exact (Q_BK733 h0_ h1_)) hb))
     clear BK724
     clear BK725
     clear HB
     have BK724 := n0_
     have BK725 := n1_
     have HB := n2_
     clear n0_ n1_ n2_
     (try clear hb)
     (try clear hb2)
     (try clear hk)
     (try clear hi)
     refine hK.out _ _ ⟨gb732, gb733, m7_, m8_, (by rw [ha.out]; exact putSel_upk 6 hb_ rfl rfl rfl), (bkp BK724), (bkp BK725), (bbw2 HB GE724 GE725), Q_NB733_732, Q_NB732_733, z_BK732, Q_GW732, Q_GE732, Q_NB724_732, Q_NB732_724, Q_NB725_732, Q_NB732_725, z_BK733, Q_GW733, Q_GE733, Q_NB724_733, Q_NB733_724, Q_NB725_733, Q_NB733_725, fun h0_ => absurd ((hoff 9 (by kernel_rfl)).symm.trans h0_) (by decide), fun h0_ => absurd ((hoff 10 (by kernel_rfl)).symm.trans h0_) (by decide), Q_X7_, Q_X8_⟩
    refine steps_cons ?_ ?_
    ·rintro b a w' ⟨gb732, gb733, m7_, m8_, ha, Q_BK724, Q_BK725, Q_HB, Q_NB733_732, Q_NB732_733, Q_BK732, Q_GW732, Q_GE732, Q_NB724_732, Q_NB732_724, Q_NB725_732, Q_NB732_725, Q_BK733, Q_GW733, Q_GE733, Q_NB724_733, Q_NB733_724, Q_NB725_733, Q_NB733_725, Q_BK732_e9, Q_BK733_e10, Q_X7_, Q_X8_⟩ hb_ hon hoff
     refine ⟨_, rfl, fun K hK => ?_⟩
     replace ha := Aside0.mk ha
     have BK724 := Aside0.mk Q_BK724
     have BK725 := Aside0.mk Q_BK725
     have HB := Aside0.mk Q_HB
     refine box_step ?hg (N := 5) ?hd (cs := #[.int .i64 0, .int .i64 0]) (t := 34) ?hr ?_; (case hd => rfl); (case hg => rfl); (case hr => first | (go_simp; done) | (go_simp; rfl))
     intro gb732 hg w11 hbox hb
     have n0_ := Aside0.mk (bbl BK724 hb)
     have n1_ := Aside0.mk (bbl BK725 hb)
     have n2_ := Aside0.mk (bst2 HB GE724 GE725 hb)
     have n3_ := Aside0.mk (hbox)
     have n4_ := ngw2 hg HB GE724 GE725
     have n5_ := ngw2 hg HB GE724 GE725
     have n6_ := nlt hg BK724
     have n7_ := nsy (nlt hg BK724)
     have n8_ := nlt hg BK725
     have n9_ := nsy (nlt hg BK725)
     have z_NB733_732 := fun (h0_ : up b 7 7 = true) (h1_ : up b 7 8 = true) => (show gb733 ≠ gb732 from ((by rw [hg]; exact Nat.ne_of_lt (by cases hq_ : b 10 with | false => exact blk_lt (g := gb733) (Q_BK733 h1_ hq_) | true => exact blk_lt (g := gb733) (Q_BK733_e10 hq_)) : gb733 ≠ gb732)))
     have z_NB732_733 := fun (h0_ : up b 7 7 = true) (h1_ : up b 7 8 = true) => (show gb732 ≠ gb733 from ((by rw [hg]; exact Nat.ne_of_gt (by cases hq_ : b 10 with | false => exact blk_lt (g := gb733) (Q_BK733 h1_ hq_) | true => exact blk_lt (g := gb733) (Q_BK733_e10 hq_)) : gb732 ≠ gb733)))
     have z_BK733 := fun (h0_ : b 8 = true) (h1_ : b 10 = false) => (show w11.heap[gb733]? = some (.cells #[.int .i64 0, .int .i64 0] 34 (0, 0)) from by first | exact (blk_below (g := gb733) (o := .cells #[.int .i64 0, .int .i64 0] 34 (0, 0)) (by (with_reducible repeat (first | refine blk_drewN ?_ _ | refine blk_drew ?_ | refine blk_alloc ?_ _)); exact (Q_BK733 h0_ h1_)) hb))
     clear BK724
     clear BK725
     clear HB
     have BK724 := n0_
     have BK725 := n1_
     have HB := n2_
     have BK732 := n3_
     have GW732 := n4_
     have GE732 := n5_
     have NB724_732 := n6_
     have NB732_724 := n7_
     have NB725_732 := n8_
     have NB732_725 := n9_
     clear n0_ n1_ n2_ n3_ n4_ n5_ n6_ n7_ n8_ n9_
     clear hb hbox hg
     refine hK.out _ _ ⟨gb732, gb733, (.pointer (some ⟨gb732, 0, none⟩)), m8_, (by rw [ha.out]; exact putSel_upk 7 hb_ rfl rfl rfl), (bkp BK724), (bkp BK725), (bbw3 HB GE724 GE725 GE732), @z_NB733_732, @z_NB732_733, fun _ _ => (bkp BK732), fun _ => GW732.out, fun _ => GE732.out, fun _ => NB724_732.out, fun _ => NB732_724.out, fun _ => NB725_732.out, fun _ => NB732_725.out, z_BK733, Q_GW733, Q_GE733, Q_NB724_733, Q_NB733_724, Q_NB725_733, Q_NB733_725, fun h0_ => absurd ((hoff 9 (by kernel_rfl)).symm.trans h0_) (by decide), fun h0_ => absurd ((hoff 10 (by kernel_rfl)).symm.trans h0_) (by decide), fun _ => rfl, Q_X8_⟩
    refine steps_cons ?_ ?_
    ·rintro b a w' ⟨gb732, gb733, m7_, m8_, ha, Q_BK724, Q_BK725, Q_HB, Q_NB733_732, Q_NB732_733, Q_BK732, Q_GW732, Q_GE732, Q_NB724_732, Q_NB732_724, Q_NB725_732, Q_NB732_725, Q_BK733, Q_GW733, Q_GE733, Q_NB724_733, Q_NB733_724, Q_NB725_733, Q_NB733_725, Q_BK732_e9, Q_BK733_e10, Q_X7_, Q_X8_⟩ hb_ hon hoff
     refine ⟨_, rfl, fun K hK => ?_⟩
     replace ha := Aside0.mk ha
     have BK724 := Aside0.mk Q_BK724
     have BK725 := Aside0.mk Q_BK725
     have HB := Aside0.mk Q_HB
     refine box_step ?hg (N := 6) ?hd (cs := #[.int .i64 0, .int .i64 0]) (t := 34) ?hr ?_; (case hd => rfl); (case hg => rfl); (case hr => first | (go_simp; done) | (go_simp; rfl))
     intro gb733 hg w11 hbox hb
     have n0_ := Aside0.mk (bbl BK724 hb)
     have n1_ := Aside0.mk (bbl BK725 hb)
     have n2_ := Aside0.mk (bst2 HB GE724 GE725 hb)
     have n3_ := Aside0.mk (hbox)
     have n4_ := ngw2 hg HB GE724 GE725
     have n5_ := ngw2 hg HB GE724 GE725
     have n6_ := nlt hg BK724
     have n7_ := nsy (nlt hg BK724)
     have n8_ := nlt hg BK725
     have n9_ := nsy (nlt hg BK725)
     have z_NB733_732 := fun (h0_ : up b 8 7 = true) (h1_ : up b 8 8 = true) => (show gb733 ≠ gb732 from ((by rw [hg]; exact Nat.ne_of_gt (by cases hq_ : b 9 with | false => exact blk_lt (g := gb732) (Q_BK732 h0_ hq_) | true => exact blk_lt (g := gb732) (Q_BK732_e9 hq_)) : gb733 ≠ gb732)))
     have z_NB732_733 := fun (h0_ : up b 8 7 = true) (h1_ : up b 8 8 = true) => (show gb732 ≠ gb733 from ((by rw [hg]; exact Nat.ne_of_lt (by cases hq_ : b 9 with | false => exact blk_lt (g := gb732) (Q_BK732 h0_ hq_) | true => exact blk_lt (g := gb732) (Q_BK732_e9 hq_)) : gb732 ≠ gb733)))
     have z_BK732 := fun (h0_ : b 7 = true) (h1_ : b 9 = false) => (show w11.heap[gb732]? = some (.cells #[.int .i64 0, .int .i64 0] 34 (0, 0)) from by first | exact (blk_below (g := gb732) (o := .cells #[.int .i64 0, .int .i64 0] 34 (0, 0)) (by (with_reducible repeat (first | refine blk_drewN ?_ _ | refine blk_drew ?_ | refine blk_alloc ?_ _)); exact (Q_BK732 h0_ h1_)) hb))
     clear BK724
     clear BK725
     clear HB
     have BK724 := n0_
     have BK725 := n1_
     have HB := n2_
     have BK733 := n3_
     have GW733 := n4_
     have GE733 := n5_
     have NB724_733 := n6_
     have NB733_724 := n7_
     have NB725_733 := n8_
     have NB733_725 := n9_
     clear n0_ n1_ n2_ n3_ n4_ n5_ n6_ n7_ n8_ n9_
     clear hb hbox hg
     refine hK.out _ _ ⟨gb732, gb733, m7_, (.pointer (some ⟨gb733, 0, none⟩)), (by rw [ha.out]; exact putSel_upk 8 hb_ rfl rfl rfl), (bkp BK724), (bkp BK725), (bbw3 HB GE724 GE725 GE733), @z_NB733_732, @z_NB732_733, z_BK732, Q_GW732, Q_GE732, Q_NB724_732, Q_NB732_724, Q_NB725_732, Q_NB732_725, fun _ _ => (bkp BK733), fun _ => GW733.out, fun _ => GE733.out, fun _ => NB724_733.out, fun _ => NB733_724.out, fun _ => NB725_733.out, fun _ => NB733_725.out, fun h0_ => absurd ((hoff 9 (by kernel_rfl)).symm.trans h0_) (by decide), fun h0_ => absurd ((hoff 10 (by kernel_rfl)).symm.trans h0_) (by decide), Q_X7_, fun _ => rfl⟩
    refine steps_cons ?_ ?_
    ·rintro b a w' ⟨gb732, gb733, m7_, m8_, ha, Q_BK724, Q_BK725, Q_HB, Q_NB733_732, Q_NB732_733, Q_BK732, Q_GW732, Q_GE732, Q_NB724_732, Q_NB732_724, Q_NB725_732, Q_NB732_725, Q_BK733, Q_GW733, Q_GE733, Q_NB724_733, Q_NB733_724, Q_NB725_733, Q_NB733_725, Q_BK732_e9, Q_BK733_e10, Q_X7_, Q_X8_⟩ hb_ hon hoff
     refine ⟨_, rfl, fun K hK => ?_⟩
     have e5 : a.tmps[5]? = some (m7_) := by rw [ha]; exact putSel_on (e := (7, 5, m7_)) 7 rfl rfl (hon 7 (by kernel_rfl)) rfl
     rw [Q_X7_ (hon 7 (by kernel_rfl))] at e5
     have e11 : a.tmps[11]? = some (.agg #[.int .i64 t728, .int .i64 t729]) := by rw [ha]; exact putSel_on (e := (4, 11, .agg #[.int .i64 t728, .int .i64 t729])) 4 rfl rfl (hon 4 (by kernel_rfl)) rfl
     replace ha := Aside0.mk ha
     have BK724 := Aside0.mk Q_BK724
     have BK725 := Aside0.mk Q_BK725
     have HB := Aside0.mk Q_HB
     have NB733_732 := Aside0.mk (Q_NB733_732 (hon 7 (by kernel_rfl)) (hon 8 (by kernel_rfl)))
     have NB732_733 := Aside0.mk (Q_NB732_733 (hon 7 (by kernel_rfl)) (hon 8 (by kernel_rfl)))
     have BK732 := Aside0.mk (Q_BK732 (hon 7 (by kernel_rfl)) hb_)
     have GW732 := Aside0.mk (Q_GW732 (hon 7 (by kernel_rfl)))
     have GE732 := Aside0.mk (Q_GE732 (hon 7 (by kernel_rfl)))
     have NB724_732 := Aside0.mk (Q_NB724_732 (hon 7 (by kernel_rfl)))
     have NB732_724 := Aside0.mk (Q_NB732_724 (hon 7 (by kernel_rfl)))
     have NB725_732 := Aside0.mk (Q_NB725_732 (hon 7 (by kernel_rfl)))
     have NB732_725 := Aside0.mk (Q_NB732_725 (hon 7 (by kernel_rfl)))
     have BK733 := Aside0.mk (Q_BK733 (hon 8 (by kernel_rfl)) (hoff 10 (by kernel_rfl)))
     have GW733 := Aside0.mk (Q_GW733 (hon 8 (by kernel_rfl)))
     have GE733 := Aside0.mk (Q_GE733 (hon 8 (by kernel_rfl)))
     have NB724_733 := Aside0.mk (Q_NB724_733 (hon 8 (by kernel_rfl)))
     have NB733_724 := Aside0.mk (Q_NB733_724 (hon 8 (by kernel_rfl)))
     have NB725_733 := Aside0.mk (Q_NB725_733 (hon 8 (by kernel_rfl)))
     have NB733_725 := Aside0.mk (Q_NB733_725 (hon 8 (by kernel_rfl)))
     have hs17 : w'.cell? ⟨gb732, 0, none⟩ = some (.int .i64 0) := bcl BK732 0
     have hfs17 := blk_frozen BK732.out 0
     have hns17_0 := NB724_732.out
     have hns17_1 := NB725_732.out
     have hns17_3 := NB733_732.out
     have hms17_0 := NB732_724.out
     have hms17_1 := NB732_725.out
     have hms17_3 := NB732_733.out
     have hs18 : w'.cell? ⟨gb732, 1, none⟩ = some (.int .i64 0) := bcl BK732 1
     have hfs18 := blk_frozen BK732.out 1
     have hns18_0 := NB724_732.out
     have hns18_1 := NB725_732.out
     have hns18_3 := NB733_732.out
     have hms18_0 := NB732_724.out
     have hms18_1 := NB732_725.out
     have hms18_3 := NB732_733.out
     refine skip_ (w1 := ?_) (by rfl) rfl ?_ ?_
     rotate_left
     ·go_simp
      rfl
     refine hK.out _ _ ⟨gb732, gb733, m7_, m8_, (by rw [ha.out]; exact putSel_none (v := undef) rfl), (by (with_reducible repeat (first | refine blk_drewN ?_ _ | refine blk_drew ?_ | refine blk_alloc ?_ _)); refine blk_far ?_ NB724_732.out _; (with_reducible repeat (first | refine blk_drewN ?_ _ | refine blk_drew ?_ | refine blk_alloc ?_ _)); refine blk_far ?_ NB724_732.out _; (with_reducible repeat (first | refine blk_drewN ?_ _ | refine blk_drew ?_ | refine blk_alloc ?_ _)); exact BK724.out), (by (with_reducible repeat (first | refine blk_drewN ?_ _ | refine blk_drew ?_ | refine blk_alloc ?_ _)); refine blk_far ?_ NB725_732.out _; (with_reducible repeat (first | refine blk_drewN ?_ _ | refine blk_drew ?_ | refine blk_alloc ?_ _)); refine blk_far ?_ NB725_732.out _; (with_reducible repeat (first | refine blk_drewN ?_ _ | refine blk_drew ?_ | refine blk_alloc ?_ _)); exact BK725.out), (bbw4 HB GE724 GE725 GE732 GE733), fun _ _ => NB733_732.out, fun _ _ => NB732_733.out, fun _ h1_ => absurd ((up_self b 9).symm.trans h1_) (by decide), fun _ => GW732.out, fun _ => GE732.out, fun _ => NB724_732.out, fun _ => NB732_724.out, fun _ => NB725_732.out, fun _ => NB732_725.out, fun _ _ => (by (with_reducible repeat (first | refine blk_drewN ?_ _ | refine blk_drew ?_ | refine blk_alloc ?_ _)); refine blk_far ?_ NB733_732.out _; (with_reducible repeat (first | refine blk_drewN ?_ _ | refine blk_drew ?_ | refine blk_alloc ?_ _)); refine blk_far ?_ NB733_732.out _; (with_reducible repeat (first | refine blk_drewN ?_ _ | refine blk_drew ?_ | refine blk_alloc ?_ _)); exact BK733.out), fun _ => GW733.out, fun _ => GE733.out, fun _ => NB724_733.out, fun _ => NB733_724.out, fun _ => NB725_733.out, fun _ => NB733_725.out, fun _ => (by (with_reducible repeat (first | refine blk_drewN ?_ _ | refine blk_drew ?_ | refine blk_alloc ?_ _)); refine blk_put (cs := #[.int .i64 t728, .int .i64 0]) ?_ 1 _ rfl; (with_reducible repeat (first | refine blk_drewN ?_ _ | refine blk_drew ?_ | refine blk_alloc ?_ _)); refine blk_put (cs := #[.int .i64 0, .int .i64 0]) ?_ 0 _ rfl; (with_reducible repeat (first | refine blk_drewN ?_ _ | refine blk_drew ?_ | refine blk_alloc ?_ _)); exact BK732.out), fun h0_ => absurd ((hoff 10 (by kernel_rfl)).symm.trans h0_) (by decide), Q_X7_, Q_X8_⟩
    refine steps_cons ?_ ?_
    ·rintro b a w' ⟨gb732, gb733, m7_, m8_, ha, Q_BK724, Q_BK725, Q_HB, Q_NB733_732, Q_NB732_733, Q_BK732, Q_GW732, Q_GE732, Q_NB724_732, Q_NB732_724, Q_NB725_732, Q_NB732_725, Q_BK733, Q_GW733, Q_GE733, Q_NB724_733, Q_NB733_724, Q_NB725_733, Q_NB733_725, Q_BK732_e9, Q_BK733_e10, Q_X7_, Q_X8_⟩ hb_ hon hoff
     refine ⟨_, rfl, fun K hK => ?_⟩
     have e6 : a.tmps[6]? = some (m8_) := by rw [ha]; exact putSel_on (e := (8, 6, m8_)) 8 rfl rfl (hon 8 (by kernel_rfl)) rfl
     rw [Q_X8_ (hon 8 (by kernel_rfl))] at e6
     have e13 : a.tmps[13]? = some (.agg #[.int .i64 t730, .int .i64 t731]) := by rw [ha]; exact putSel_on (e := (6, 13, .agg #[.int .i64 t730, .int .i64 t731])) 6 rfl rfl (hon 6 (by kernel_rfl)) rfl
     replace ha := Aside0.mk ha
     have BK724 := Aside0.mk Q_BK724
     have BK725 := Aside0.mk Q_BK725
     have HB := Aside0.mk Q_HB
     have NB733_732 := Aside0.mk (Q_NB733_732 (hon 7 (by kernel_rfl)) (hon 8 (by kernel_rfl)))
     have NB732_733 := Aside0.mk (Q_NB732_733 (hon 7 (by kernel_rfl)) (hon 8 (by kernel_rfl)))
     have GW732 := Aside0.mk (Q_GW732 (hon 7 (by kernel_rfl)))
     have GE732 := Aside0.mk (Q_GE732 (hon 7 (by kernel_rfl)))
     have NB724_732 := Aside0.mk (Q_NB724_732 (hon 7 (by kernel_rfl)))
     have NB732_724 := Aside0.mk (Q_NB732_724 (hon 7 (by kernel_rfl)))
     have NB725_732 := Aside0.mk (Q_NB725_732 (hon 7 (by kernel_rfl)))
     have NB732_725 := Aside0.mk (Q_NB732_725 (hon 7 (by kernel_rfl)))
     have BK733 := Aside0.mk (Q_BK733 (hon 8 (by kernel_rfl)) hb_)
     have GW733 := Aside0.mk (Q_GW733 (hon 8 (by kernel_rfl)))
     have GE733 := Aside0.mk (Q_GE733 (hon 8 (by kernel_rfl)))
     have NB724_733 := Aside0.mk (Q_NB724_733 (hon 8 (by kernel_rfl)))
     have NB733_724 := Aside0.mk (Q_NB733_724 (hon 8 (by kernel_rfl)))
     have NB725_733 := Aside0.mk (Q_NB725_733 (hon 8 (by kernel_rfl)))
     have NB733_725 := Aside0.mk (Q_NB733_725 (hon 8 (by kernel_rfl)))
     have BK732 := Aside0.mk (Q_BK732_e9 (hon 9 (by kernel_rfl)))
     have hs19 : w'.cell? ⟨gb733, 0, none⟩ = some (.int .i64 0) := bcl BK733 0
     have hfs19 := blk_frozen BK733.out 0
     have hns19_0 := NB724_733.out
     have hns19_1 := NB725_733.out
     have hns19_2 := NB732_733.out
     have hms19_0 := NB733_724.out
     have hms19_1 := NB733_725.out
     have hms19_2 := NB733_732.out
     have hs20 : w'.cell? ⟨gb733, 1, none⟩ = some (.int .i64 0) := bcl BK733 1
     have hfs20 := blk_frozen BK733.out 1
     have hns20_0 := NB724_733.out
     have hns20_1 := NB725_733.out
     have hns20_2 := NB732_733.out
     have hms20_0 := NB733_724.out
     have hms20_1 := NB733_725.out
     have hms20_2 := NB733_732.out
     refine skip_ (w1 := ?_) (by rfl) rfl ?_ ?_
     rotate_left
     ·go_simp
      rfl
     refine hK.out _ _ ⟨gb732, gb733, m7_, m8_, (by rw [ha.out]; exact putSel_none (v := undef) rfl), (by (with_reducible repeat (first | refine blk_drewN ?_ _ | refine blk_drew ?_ | refine blk_alloc ?_ _)); refine blk_far ?_ NB724_733.out _; (with_reducible repeat (first | refine blk_drewN ?_ _ | refine blk_drew ?_ | refine blk_alloc ?_ _)); refine blk_far ?_ NB724_733.out _; (with_reducible repeat (first | refine blk_drewN ?_ _ | refine blk_drew ?_ | refine blk_alloc ?_ _)); exact BK724.out), (by (with_reducible repeat (first | refine blk_drewN ?_ _ | refine blk_drew ?_ | refine blk_alloc ?_ _)); refine blk_far ?_ NB725_733.out _; (with_reducible repeat (first | refine blk_drewN ?_ _ | refine blk_drew ?_ | refine blk_alloc ?_ _)); refine blk_far ?_ NB725_733.out _; (with_reducible repeat (first | refine blk_drewN ?_ _ | refine blk_drew ?_ | refine blk_alloc ?_ _)); exact BK725.out), (bbw4 HB GE724 GE725 GE732 GE733), fun _ _ => NB733_732.out, fun _ _ => NB732_733.out, fun _ h1_ => absurd ((hon 9 (by kernel_rfl)).symm.trans h1_) (by decide), fun _ => GW732.out, fun _ => GE732.out, fun _ => NB724_732.out, fun _ => NB732_724.out, fun _ => NB725_732.out, fun _ => NB732_725.out, fun _ h1_ => absurd ((up_self b 10).symm.trans h1_) (by decide), fun _ => GW733.out, fun _ => GE733.out, fun _ => NB724_733.out, fun _ => NB733_724.out, fun _ => NB725_733.out, fun _ => NB733_725.out, fun _ => (by (with_reducible repeat (first | refine blk_drewN ?_ _ | refine blk_drew ?_ | refine blk_alloc ?_ _)); refine blk_far ?_ NB732_733.out _; (with_reducible repeat (first | refine blk_drewN ?_ _ | refine blk_drew ?_ | refine blk_alloc ?_ _)); refine blk_far ?_ NB732_733.out _; (with_reducible repeat (first | refine blk_drewN ?_ _ | refine blk_drew ?_ | refine blk_alloc ?_ _)); exact BK732.out), fun _ => (by (with_reducible repeat (first | refine blk_drewN ?_ _ | refine blk_drew ?_ | refine blk_alloc ?_ _)); refine blk_put (cs := #[.int .i64 t730, .int .i64 0]) ?_ 1 _ rfl; (with_reducible repeat (first | refine blk_drewN ?_ _ | refine blk_drew ?_ | refine blk_alloc ?_ _)); refine blk_put (cs := #[.int .i64 0, .int .i64 0]) ?_ 0 _ rfl; (with_reducible repeat (first | refine blk_drewN ?_ _ | refine blk_drew ?_ | refine blk_alloc ?_ _)); exact BK733.out), Q_X7_, Q_X8_⟩
    exact steps_nil
   rintro b a w20 hall ⟨gb732, gb733, m7_, m8_, ha, Q_BK724, Q_BK725, Q_HB, Q_NB733_732, Q_NB732_733, Q_BK732, Q_GW732, Q_GE732, Q_NB724_732, Q_NB732_724, Q_NB725_732, Q_NB732_725, Q_BK733, Q_GW733, Q_GE733, Q_NB724_733, Q_NB733_724, Q_NB725_733, Q_NB733_725, Q_BK732_e9, Q_BK733_e10, Q_X7_, Q_X8_⟩
   clear BK724 BK725 HB
   have hb0_ := hall 0 (by kernel_rfl)
   have hb1_ := hall 1 (by kernel_rfl)
   have hb2_ := hall 2 (by kernel_rfl)
   have hb3_ := hall 3 (by kernel_rfl)
   have hb4_ := hall 4 (by kernel_rfl)
   have hb5_ := hall 5 (by kernel_rfl)
   have hb6_ := hall 6 (by kernel_rfl)
   have hb7_ := hall 7 (by kernel_rfl)
   have hb8_ := hall 8 (by kernel_rfl)
   have hb9_ := hall 9 (by kernel_rfl)
   have hb10_ := hall 10 (by kernel_rfl)
   subst ha
   obtain rfl := Q_X7_ hb7_
   obtain rfl := Q_X8_ hb8_
   simp only [putSel, hb0_, hb1_, hb2_, hb3_, hb4_, hb5_, hb6_, hb7_, hb8_, hb9_, hb10_, if_true, Act.put, sA, sB, sC]
   have BK724 := Aside0.mk Q_BK724
   clear Q_BK724
   have BK725 := Aside0.mk Q_BK725
   clear Q_BK725
   have HB := Aside0.mk Q_HB
   clear Q_HB
   have NB733_732 := Aside0.mk (Q_NB733_732 hb7_ hb8_)
   clear Q_NB733_732
   have NB732_733 := Aside0.mk (Q_NB732_733 hb7_ hb8_)
   clear Q_NB732_733
   clear Q_BK732
   have GW732 := Aside0.mk (Q_GW732 hb7_)
   clear Q_GW732
   have GE732 := Aside0.mk (Q_GE732 hb7_)
   clear Q_GE732
   have NB724_732 := Aside0.mk (Q_NB724_732 hb7_)
   clear Q_NB724_732
   have NB732_724 := Aside0.mk (Q_NB732_724 hb7_)
   clear Q_NB732_724
   have NB725_732 := Aside0.mk (Q_NB725_732 hb7_)
   clear Q_NB725_732
   have NB732_725 := Aside0.mk (Q_NB732_725 hb7_)
   clear Q_NB732_725
   clear Q_BK733
   have GW733 := Aside0.mk (Q_GW733 hb8_)
   clear Q_GW733
   have GE733 := Aside0.mk (Q_GE733 hb8_)
   clear Q_GE733
   have NB724_733 := Aside0.mk (Q_NB724_733 hb8_)
   clear Q_NB724_733
   have NB733_724 := Aside0.mk (Q_NB733_724 hb8_)
   clear Q_NB733_724
   have NB725_733 := Aside0.mk (Q_NB725_733 hb8_)
   clear Q_NB725_733
   have NB733_725 := Aside0.mk (Q_NB733_725 hb8_)
   clear Q_NB733_725
   have BK732 := Aside0.mk (Q_BK732_e9 hb9_)
   clear Q_BK732_e9
   have BK733 := Aside0.mk (Q_BK733_e10 hb10_)
   clear Q_BK733_e10
   clear hall hb0_ hb1_ hb2_ hb3_ hb4_ hb5_ hb6_ hb7_ hb8_ hb9_ hb10_
   have hnb21 := NB733_724.out
   have hnc21 := NB724_733.out
   have hnb22 := NB733_725.out
   have hnc22 := NB725_733.out
   have hnb23 := NB733_732.out
   have hnc23 := NB732_733.out
   have hcz24_0 : w20.cell? ⟨gb733, 0, none⟩ = some (.int .i64 t730) := bcl BK733 0
   have hcz24_1 : w20.cell? ⟨gb733, 1, none⟩ = some (.int .i64 t731) := bcl BK733 1
   have hfz24_0 := blk_frozen BK733.out 0
   have hfz24_1 := blk_frozen BK733.out 1
   have hnb25 := NB732_724.out
   have hnc25 := NB724_732.out
   have hnb26 := NB732_725.out
   have hnc26 := NB725_732.out
   have hcz27_0 : w20.cell? ⟨gb732, 0, none⟩ = some (.int .i64 t728) := bcl BK732 0
   have hcz27_1 : w20.cell? ⟨gb732, 1, none⟩ = some (.int .i64 t729) := bcl BK732 1
   have hfz27_0 := blk_frozen BK732.out 0
   have hfz27_1 := blk_frozen BK732.out 1
   try go_wp2
   go_ret
   exact ⟨by first | rfl | (simp [errW_none, errW_some] <;> rfl) | (simp [*, errW_none, errW_some] <;> rfl), bbw4 HB GE724 GE725 GE732 GE733⟩
 ·rw [if_neg c6] at H
  have c6b0 : (t730 == 0) = false := beq_eq_false_iff_ne.mpr c6
  have c6b1 : (t730 != 0) = true := bne_iff_ne.mpr c6
  obtain rfl := Option.some.inj H
  go_enter Try.func104, Try.ntmps104
  try go_wp2_with (first | ((with_reducible refine gate_dst (N := 2) rfl ?_); refine box_event ?hg (N := 2) ?hd (cs := #[.int .i64 a0_0, .int .i64 a0_1, .int .i64 a0_2, .int .i64 a0_3]) (t := 33) ?hr ?_; (case hd => rfl); (case hg => rfl); (case hr => first | (go_simp; done) | (go_simp; rfl)); intro gb724 hg w28 hbox hb; have n0_ := Aside0.mk (bst0 HB hb); have n1_ := Aside0.mk (hbox); have n2_ := ngw0 hg HB; have n3_ := n2_; clear HB; have HB := n0_; have BK724 := n1_; have GW724 := n2_; have GE724 := n3_; clear n0_ n1_ n2_ n3_; clear hb hbox hg) | ((with_reducible refine gate_dst (N := 3) rfl ?_); refine box_event ?hg (N := 3) ?hd (cs := #[.int .i64 a1_0, .int .i64 a1_1]) (t := 34) ?hr ?_; (case hd => rfl); (case hg => rfl); (case hr => first | (go_simp; done) | (go_simp; rfl)); intro gb725 hg w29 hbox hb; have n0_ := Aside0.mk (bbl BK724 hb); have n1_ := Aside0.mk (bst1 HB GE724 hb); have n2_ := Aside0.mk (hbox); have n3_ := ngw1 hg HB GE724; have n4_ := n3_; have n5_ := nlt hg BK724; have n6_ := nsy (nlt hg BK724); clear BK724; clear HB; have BK724 := n0_; have HB := n1_; have BK725 := n2_; have GW725 := n3_; have GE725 := n4_; have NB724_725 := n5_; have NB725_724 := n6_; clear n0_ n1_ n2_ n3_ n4_ n5_ n6_; clear hb hbox hg))
  have n0_ := Aside0.mk (blk_drew BK724.out)
  have n1_ := Aside0.mk (blk_drew BK725.out)
  have n2_ := Aside0.mk (below_drew1 HB.out)
  clear BK724
  clear BK725
  clear HB
  have BK724 := n0_
  have BK725 := n1_
  have HB := n2_
  clear n0_ n1_ n2_
  refine start_ (n := 11) (S := fun w' => True) (ds := []) #[false, false, false, false, false, false, false, false, false, false, false] (by kernel_rfl) rfl rfl trivial (fun hHeld => ?_); refine with_tabW impl_alongAxis.tab1 impl_alongAxis.bits1 (fun HT_ HW_ => ?_)
  generalize w29.drew = w30 at BK724 BK725 HB hHeld ⊢
  refine inv_at [0, 1, 2, 3, 4, 5, 6, 7, 8, 9, 10] (fun a0_ b a w' => ∃ (gb732 : Nat) (gb733 : Nat) (m7_ : Value) (m8_ : Value), a = putSel a0_ b [(0, 7, .agg #[.int .i64 a1_0, .int .i64 a1_1]), (1, 8, .agg #[.int .i64 a0_0, .int .i64 a0_1, .int .i64 a0_2, .int .i64 a0_3]), (2, 9, .agg #[.int .i64 a1_0, .int .i64 a1_1]), (3, 10, .agg #[.int .i64 t726, .int .i64 t727]), (4, 11, .agg #[.int .i64 t728, .int .i64 t729]), (5, 12, .agg #[.int .i64 a0_0, .int .i64 a0_1, .int .i64 a0_2, .int .i64 a0_3]), (6, 13, .agg #[.int .i64 t730, .int .i64 t731]), (7, 5, m7_), (8, 6, m8_)] ∧ (w'.heap[gb724]? = some (.cells #[.int .i64 a0_0, .int .i64 a0_1, .int .i64 a0_2, .int .i64 a0_3] 33 (0, 0))) ∧ (w'.heap[gb725]? = some (.cells #[.int .i64 a1_0, .int .i64 a1_1] 34 (0, 0))) ∧ (Below w.heap.size w w') ∧ (b 7 = true → b 8 = true → gb733 ≠ gb732) ∧ (b 7 = true → b 8 = true → gb732 ≠ gb733) ∧ (b 7 = true → b 9 = false → w'.heap[gb732]? = some (.cells #[.int .i64 0, .int .i64 0] 34 (0, 0))) ∧ (b 7 = true → w.heap.size ≤ gb732) ∧ (b 7 = true → w.heap.size ≤ gb732) ∧ (b 7 = true → gb724 ≠ gb732) ∧ (b 7 = true → gb732 ≠ gb724) ∧ (b 7 = true → gb725 ≠ gb732) ∧ (b 7 = true → gb732 ≠ gb725) ∧ (b 8 = true → b 10 = false → w'.heap[gb733]? = some (.cells #[.int .i64 0, .int .i64 0] 34 (0, 0))) ∧ (b 8 = true → w.heap.size ≤ gb733) ∧ (b 8 = true → w.heap.size ≤ gb733) ∧ (b 8 = true → gb724 ≠ gb733) ∧ (b 8 = true → gb733 ≠ gb724) ∧ (b 8 = true → gb725 ≠ gb733) ∧ (b 8 = true → gb733 ≠ gb725) ∧ (b 9 = true → w'.heap[gb732]? = some (.cells #[.int .i64 t728, .int .i64 t729] 34 (0, 0))) ∧ (b 10 = true → w'.heap[gb733]? = some (.cells #[.int .i64 t730, .int .i64 t731] 34 (0, 0))) ∧ (b 7 = true → (m7_ : Value) = .pointer (some ⟨gb732, 0, none⟩)) ∧ (b 8 = true → (m8_ : Value) = .pointer (some ⟨gb733, 0, none⟩))) HT_.out HW_.out (by kernel_rfl) (by kernel_rfl) ?_ ?_ ?_
  ·exact ⟨0, 0, .bool false, .bool false, by simp only [putSel, Bool.false_eq_true, if_false], BK724.out, BK725.out, HB.out, fun h_ => absurd h_ (by decide), fun h_ => absurd h_ (by decide), fun h_ => absurd h_ (by decide), fun h_ => absurd h_ (by decide), fun h_ => absurd h_ (by decide), fun h_ => absurd h_ (by decide), fun h_ => absurd h_ (by decide), fun h_ => absurd h_ (by decide), fun h_ => absurd h_ (by decide), fun h_ => absurd h_ (by decide), fun h_ => absurd h_ (by decide), fun h_ => absurd h_ (by decide), fun h_ => absurd h_ (by decide), fun h_ => absurd h_ (by decide), fun h_ => absurd h_ (by decide), fun h_ => absurd h_ (by decide), fun h_ => absurd h_ (by decide), fun h_ => absurd h_ (by decide), fun h_ => absurd h_ (by decide), fun h_ => absurd h_ (by decide)⟩
  ·skip
   clear BK724 BK725 HB
   refine steps_cons ?_ ?_
   ·rintro b a w' ⟨gb732, gb733, m7_, m8_, ha, Q_BK724, Q_BK725, Q_HB, Q_NB733_732, Q_NB732_733, Q_BK732, Q_GW732, Q_GE732, Q_NB724_732, Q_NB732_724, Q_NB725_732, Q_NB732_725, Q_BK733, Q_GW733, Q_GE733, Q_NB724_733, Q_NB733_724, Q_NB725_733, Q_NB733_725, Q_BK732_e9, Q_BK733_e10, Q_X7_, Q_X8_⟩ hb_ hon hoff
    refine ⟨_, rfl, fun K hK => ?_⟩
    have e3 : a.tmps[3]? = some (.pointer (some ⟨gb725, 0, none⟩)) := by rw [ha]; exact (putSel_off rfl).trans rfl
    replace ha := Aside0.mk ha
    have BK724 := Aside0.mk Q_BK724
    have BK725 := Aside0.mk Q_BK725
    have HB := Aside0.mk Q_HB
    have hc0_ : w'.cell? ⟨gb725, 0, none⟩ = some (.int .i64 a1_0) := bcl BK725 0
    have hc1_ : w'.cell? ⟨gb725, 1, none⟩ = some (.int .i64 a1_1) := bcl BK725 1
    refine value_ (w1 := w') (v := .agg #[.int .i64 a1_0, .int .i64 a1_1]) (by rfl) rfl ?_ ?_
    ·go_simp
     (try simp only [i64_w])
     try rfl
    refine hK.out _ _ ⟨gb732, gb733, m7_, m8_, (by rw [ha.out]; exact putSel_upk 0 hb_ rfl rfl rfl), Q_BK724, Q_BK725, Q_HB, Q_NB733_732, Q_NB732_733, Q_BK732, Q_GW732, Q_GE732, Q_NB724_732, Q_NB732_724, Q_NB725_732, Q_NB732_725, Q_BK733, Q_GW733, Q_GE733, Q_NB724_733, Q_NB733_724, Q_NB725_733, Q_NB733_725, fun h0_ => absurd ((hoff 9 (by kernel_rfl)).symm.trans h0_) (by decide), fun h0_ => absurd ((hoff 10 (by kernel_rfl)).symm.trans h0_) (by decide), Q_X7_, Q_X8_⟩
   refine steps_cons ?_ ?_
   ·rintro b a w' ⟨gb732, gb733, m7_, m8_, ha, Q_BK724, Q_BK725, Q_HB, Q_NB733_732, Q_NB732_733, Q_BK732, Q_GW732, Q_GE732, Q_NB724_732, Q_NB732_724, Q_NB725_732, Q_NB732_725, Q_BK733, Q_GW733, Q_GE733, Q_NB724_733, Q_NB733_724, Q_NB725_733, Q_NB733_725, Q_BK732_e9, Q_BK733_e10, Q_X7_, Q_X8_⟩ hb_ hon hoff
    refine ⟨_, rfl, fun K hK => ?_⟩
    have e2 : a.tmps[2]? = some (.pointer (some ⟨gb724, 0, none⟩)) := by rw [ha]; exact (putSel_off rfl).trans rfl
    replace ha := Aside0.mk ha
    have BK724 := Aside0.mk Q_BK724
    have BK725 := Aside0.mk Q_BK725
    have HB := Aside0.mk Q_HB
    have hc0_ : w'.cell? ⟨gb724, 0, none⟩ = some (.int .i64 a0_0) := bcl BK724 0
    have hc1_ : w'.cell? ⟨gb724, 1, none⟩ = some (.int .i64 a0_1) := bcl BK724 1
    have hc2_ : w'.cell? ⟨gb724, 2, none⟩ = some (.int .i64 a0_2) := bcl BK724 2
    have hc3_ : w'.cell? ⟨gb724, 3, none⟩ = some (.int .i64 a0_3) := bcl BK724 3
    refine value_ (w1 := w') (v := .agg #[.int .i64 a0_0, .int .i64 a0_1, .int .i64 a0_2, .int .i64 a0_3]) (by rfl) rfl ?_ ?_
    ·go_simp
     (try simp only [i64_w])
     try rfl
    refine hK.out _ _ ⟨gb732, gb733, m7_, m8_, (by rw [ha.out]; exact putSel_upk 1 hb_ rfl rfl rfl), Q_BK724, Q_BK725, Q_HB, Q_NB733_732, Q_NB732_733, Q_BK732, Q_GW732, Q_GE732, Q_NB724_732, Q_NB732_724, Q_NB725_732, Q_NB732_725, Q_BK733, Q_GW733, Q_GE733, Q_NB724_733, Q_NB733_724, Q_NB725_733, Q_NB733_725, fun h0_ => absurd ((hoff 9 (by kernel_rfl)).symm.trans h0_) (by decide), fun h0_ => absurd ((hoff 10 (by kernel_rfl)).symm.trans h0_) (by decide), Q_X7_, Q_X8_⟩
   refine steps_cons ?_ ?_
   ·rintro b a w' ⟨gb732, gb733, m7_, m8_, ha, Q_BK724, Q_BK725, Q_HB, Q_NB733_732, Q_NB732_733, Q_BK732, Q_GW732, Q_GE732, Q_NB724_732, Q_NB732_724, Q_NB725_732, Q_NB732_725, Q_BK733, Q_GW733, Q_GE733, Q_NB724_733, Q_NB733_724, Q_NB725_733, Q_NB733_725, Q_BK732_e9, Q_BK733_e10, Q_X7_, Q_X8_⟩ hb_ hon hoff
    refine ⟨_, rfl, fun K hK => ?_⟩
    have e3 : a.tmps[3]? = some (.pointer (some ⟨gb725, 0, none⟩)) := by rw [ha]; exact (putSel_off rfl).trans rfl
    replace ha := Aside0.mk ha
    have BK724 := Aside0.mk Q_BK724
    have BK725 := Aside0.mk Q_BK725
    have HB := Aside0.mk Q_HB
    have hc0_ : w'.cell? ⟨gb725, 0, none⟩ = some (.int .i64 a1_0) := bcl BK725 0
    have hc1_ : w'.cell? ⟨gb725, 1, none⟩ = some (.int .i64 a1_1) := bcl BK725 1
    refine value_ (w1 := w') (v := .agg #[.int .i64 a1_0, .int .i64 a1_1]) (by rfl) rfl ?_ ?_
    ·go_simp
     (try simp only [i64_w])
     try rfl
    refine hK.out _ _ ⟨gb732, gb733, m7_, m8_, (by rw [ha.out]; exact putSel_upk 2 hb_ rfl rfl rfl), Q_BK724, Q_BK725, Q_HB, Q_NB733_732, Q_NB732_733, Q_BK732, Q_GW732, Q_GE732, Q_NB724_732, Q_NB732_724, Q_NB725_732, Q_NB732_725, Q_BK733, Q_GW733, Q_GE733, Q_NB724_733, Q_NB733_724, Q_NB725_733, Q_NB733_725, fun h0_ => absurd ((hoff 9 (by kernel_rfl)).symm.trans h0_) (by decide), fun h0_ => absurd ((hoff 10 (by kernel_rfl)).symm.trans h0_) (by decide), Q_X7_, Q_X8_⟩
   refine steps_cons ?_ ?_
   ·rintro b a w' ⟨gb732, gb733, m7_, m8_, ha, Q_BK724, Q_BK725, Q_HB, Q_NB733_732, Q_NB732_733, Q_BK732, Q_GW732, Q_GE732, Q_NB724_732, Q_NB732_724, Q_NB725_732, Q_NB732_725, Q_BK733, Q_GW733, Q_GE733, Q_NB724_733, Q_NB733_724, Q_NB725_733, Q_NB733_725, Q_BK732_e9, Q_BK733_e10, Q_X7_, Q_X8_⟩ hb_ hon hoff
    refine ⟨_, rfl, fun K hK => ?_⟩
    have e8 : a.tmps[8]? = some (.agg #[.int .i64 a0_0, .int .i64 a0_1, .int .i64 a0_2, .int .i64 a0_3]) := by rw [ha]; exact putSel_on (e := (1, 8, .agg #[.int .i64 a0_0, .int .i64 a0_1, .int .i64 a0_2, .int .i64 a0_3])) 1 rfl rfl (hon 1 (by kernel_rfl)) rfl
    have e9 : a.tmps[9]? = some (.agg #[.int .i64 a1_0, .int .i64 a1_1]) := by rw [ha]; exact putSel_on (e := (2, 9, .agg #[.int .i64 a1_0, .int .i64 a1_1])) 2 rfl rfl (hon 2 (by kernel_rfl)) rfl
    replace ha := Aside0.mk ha
    have BK724 := Aside0.mk Q_BK724
    have BK725 := Aside0.mk Q_BK725
    have HB := Aside0.mk Q_HB
    refine goes_ Try.func124 (by kernel_rfl) rfl #[.agg #[.int .i64 a0_0, .int .i64 a0_1, .int .i64 a0_2, .int .i64 a0_3], .agg #[.int .i64 a1_0, .int .i64 a1_1]] (by rfl) rfl rfl (by first | (simp only [List.map_toArray, List.map_cons, List.map_nil, Act.eval, Array.getD_eq_getD_getElem?, Option.getD_some, e8, e9]; done) | (simp only [List.map_toArray, List.map_cons, List.map_nil, Act.eval, Array.getD_eq_getD_getElem?, Option.getD_some, e8, e9]; rfl)) ?_
    with_reducible refine (impl_Mat_apply.calls a0_0 a0_1 a0_2 a0_3 a1_0 a1_1 t726 t727 _ A3.out).mono ?_
    rintro e w31 ⟨rfl, hb⟩
    refine ⟨_, rfl, ?_⟩
    have n0_ := Aside0.mk (bbl BK724 hb)
    have n1_ := Aside0.mk (bbl BK725 hb)
    have n2_ := Aside0.mk (bst2 HB GE724 GE725 hb)
    have z_BK732 := fun (h0_ : b 7 = true) (h1_ : b 9 = false) => (show w31.heap[gb732]? = some (.cells #[.int .i64 0, .int .i64 0] 34 (0, 0)) from by first | exact (blk_below (g := gb732) (o := .cells #[.int .i64 0, .int .i64 0] 34 (0, 0)) (by (with_reducible repeat (first | refine blk_drewN ?_ _ | refine blk_drew ?_ | refine blk_alloc ?_ _)); exact (Q_BK732 h0_ h1_)) hb))
    have z_BK733 := fun (h0_ : b 8 = true) (h1_ : b 10 = false) => (show w31.heap[gb733]? = some (.cells #[.int .i64 0, .int .i64 0] 34 (0, 0)) from by first | exact (blk_below (g := gb733) (o := .cells #[.int .i64 0, .int .i64 0] 34 (0, 0)) (by (with_reducible repeat (first | refine blk_drewN ?_ _ | refine blk_drew ?_ | refine blk_alloc ?_ _)); exact (Q_BK733 h0_ h1_)) hb))
    clear BK724
    clear BK725
    clear HB
    have BK724 := n0_
    have BK725 := n1_
    have HB := n2_
    clear n0_ n1_ n2_
    (try clear hb)
    (try clear hb2)
    (try clear hk)
    (try clear hi)
    refine hK.out _ _ ⟨gb732, gb733, m7_, m8_, (by rw [ha.out]; exact putSel_upk 3 hb_ rfl rfl rfl), (bkp BK724), (bkp BK725), (bbw2 HB GE724 GE725), Q_NB733_732, Q_NB732_733, z_BK732, Q_GW732, Q_GE732, Q_NB724_732, Q_NB732_724, Q_NB725_732, Q_NB732_725, z_BK733, Q_GW733, Q_GE733, Q_NB724_733, Q_NB733_724, Q_NB725_733, Q_NB733_725, fun h0_ => absurd ((hoff 9 (by kernel_rfl)).symm.trans h0_) (by decide), fun h0_ => absurd ((hoff 10 (by kernel_rfl)).symm.trans h0_) (by decide), Q_X7_, Q_X8_⟩
   refine steps_cons ?_ ?_
   ·rintro b a w' ⟨gb732, gb733, m7_, m8_, ha, Q_BK724, Q_BK725, Q_HB, Q_NB733_732, Q_NB732_733, Q_BK732, Q_GW732, Q_GE732, Q_NB724_732, Q_NB732_724, Q_NB725_732, Q_NB732_725, Q_BK733, Q_GW733, Q_GE733, Q_NB724_733, Q_NB733_724, Q_NB725_733, Q_NB733_725, Q_BK732_e9, Q_BK733_e10, Q_X7_, Q_X8_⟩ hb_ hon hoff
    refine ⟨_, rfl, fun K hK => ?_⟩
    have e7 : a.tmps[7]? = some (.agg #[.int .i64 a1_0, .int .i64 a1_1]) := by rw [ha]; exact putSel_on (e := (0, 7, .agg #[.int .i64 a1_0, .int .i64 a1_1])) 0 rfl rfl (hon 0 (by kernel_rfl)) rfl
    have e10 : a.tmps[10]? = some (.agg #[.int .i64 t726, .int .i64 t727]) := by rw [ha]; exact putSel_on (e := (3, 10, .agg #[.int .i64 t726, .int .i64 t727])) 3 rfl rfl (hon 3 (by kernel_rfl)) rfl
    replace ha := Aside0.mk ha
    have BK724 := Aside0.mk Q_BK724
    have BK725 := Aside0.mk Q_BK725
    have HB := Aside0.mk Q_HB
    refine goes_ Try.func94 (by kernel_rfl) rfl #[.agg #[.int .i64 a1_0, .int .i64 a1_1], .agg #[.int .i64 t726, .int .i64 t727]] (by rfl) rfl rfl (by first | (simp only [List.map_toArray, List.map_cons, List.map_nil, Act.eval, Array.getD_eq_getD_getElem?, Option.getD_some, e7, e10]; done) | (simp only [List.map_toArray, List.map_cons, List.map_nil, Act.eval, Array.getD_eq_getD_getElem?, Option.getD_some, e7, e10]; rfl)) ?_
    with_reducible refine (impl_Vec_add.calls a1_0 a1_1 t726 t727 t728 t729 _ A4.out).mono ?_
    rintro e w33 ⟨rfl, hb⟩
    refine ⟨_, rfl, ?_⟩
    have n0_ := Aside0.mk (bbl BK724 hb)
    have n1_ := Aside0.mk (bbl BK725 hb)
    have n2_ := Aside0.mk (bst2 HB GE724 GE725 hb)
    have z_BK732 := fun (h0_ : b 7 = true) (h1_ : b 9 = false) => (show w33.heap[gb732]? = some (.cells #[.int .i64 0, .int .i64 0] 34 (0, 0)) from by first | exact (blk_below (g := gb732) (o := .cells #[.int .i64 0, .int .i64 0] 34 (0, 0)) (by (with_reducible repeat (first | refine blk_drewN ?_ _ | refine blk_drew ?_ | refine blk_alloc ?_ _)); exact (Q_BK732 h0_ h1_)) hb))
    have z_BK733 := fun (h0_ : b 8 = true) (h1_ : b 10 = false) => (show w33.heap[gb733]? = some (.cells #[.int .i64 0, .int .i64 0] 34 (0, 0)) from by first | exact (blk_below (g := gb733) (o := .cells #[.int .i64 0, .int .i64 0] 34 (0, 0)) (by (with_reducible repeat (first | refine blk_drewN ?_ _ | refine blk_drew ?_ | refine blk_alloc ?_ _)); exact (Q_BK733 h0_ h1_)) hb))
    clear BK724
    clear BK725
    clear HB
    have BK724 := n0_
    have BK725 := n1_
    have HB := n2_
    clear n0_ n1_ n2_
    (try clear hb)
    (try clear hb2)
    (try clear hk)
    (try clear hi)
    refine hK.out _ _ ⟨gb732, gb733, m7_, m8_, (by rw [ha.out]; exact putSel_upk 4 hb_ rfl rfl rfl), (bkp BK724), (bkp BK725), (bbw2 HB GE724 GE725), Q_NB733_732, Q_NB732_733, z_BK732, Q_GW732, Q_GE732, Q_NB724_732, Q_NB732_724, Q_NB725_732, Q_NB732_725, z_BK733, Q_GW733, Q_GE733, Q_NB724_733, Q_NB733_724, Q_NB725_733, Q_NB733_725, fun h0_ => absurd ((hoff 9 (by kernel_rfl)).symm.trans h0_) (by decide), fun h0_ => absurd ((hoff 10 (by kernel_rfl)).symm.trans h0_) (by decide), Q_X7_, Q_X8_⟩
   refine steps_cons ?_ ?_
   ·rintro b a w' ⟨gb732, gb733, m7_, m8_, ha, Q_BK724, Q_BK725, Q_HB, Q_NB733_732, Q_NB732_733, Q_BK732, Q_GW732, Q_GE732, Q_NB724_732, Q_NB732_724, Q_NB725_732, Q_NB732_725, Q_BK733, Q_GW733, Q_GE733, Q_NB724_733, Q_NB733_724, Q_NB725_733, Q_NB733_725, Q_BK732_e9, Q_BK733_e10, Q_X7_, Q_X8_⟩ hb_ hon hoff
    refine ⟨_, rfl, fun K hK => ?_⟩
    have e2 : a.tmps[2]? = some (.pointer (some ⟨gb724, 0, none⟩)) := by rw [ha]; exact (putSel_off rfl).trans rfl
    replace ha := Aside0.mk ha
    have BK724 := Aside0.mk Q_BK724
    have BK725 := Aside0.mk Q_BK725
    have HB := Aside0.mk Q_HB
    have hc0_ : w'.cell? ⟨gb724, 0, none⟩ = some (.int .i64 a0_0) := bcl BK724 0
    have hc1_ : w'.cell? ⟨gb724, 1, none⟩ = some (.int .i64 a0_1) := bcl BK724 1
    have hc2_ : w'.cell? ⟨gb724, 2, none⟩ = some (.int .i64 a0_2) := bcl BK724 2
    have hc3_ : w'.cell? ⟨gb724, 3, none⟩ = some (.int .i64 a0_3) := bcl BK724 3
    refine value_ (w1 := w') (v := .agg #[.int .i64 a0_0, .int .i64 a0_1, .int .i64 a0_2, .int .i64 a0_3]) (by rfl) rfl ?_ ?_
    ·go_simp
     (try simp only [i64_w])
     try rfl
    refine hK.out _ _ ⟨gb732, gb733, m7_, m8_, (by rw [ha.out]; exact putSel_upk 5 hb_ rfl rfl rfl), Q_BK724, Q_BK725, Q_HB, Q_NB733_732, Q_NB732_733, Q_BK732, Q_GW732, Q_GE732, Q_NB724_732, Q_NB732_724, Q_NB725_732, Q_NB732_725, Q_BK733, Q_GW733, Q_GE733, Q_NB724_733, Q_NB733_724, Q_NB725_733, Q_NB733_725, fun h0_ => absurd ((hoff 9 (by kernel_rfl)).symm.trans h0_) (by decide), fun h0_ => absurd ((hoff 10 (by kernel_rfl)).symm.trans h0_) (by decide), Q_X7_, Q_X8_⟩
   refine steps_cons ?_ ?_
   ·rintro b a w' ⟨gb732, gb733, m7_, m8_, ha, Q_BK724, Q_BK725, Q_HB, Q_NB733_732, Q_NB732_733, Q_BK732, Q_GW732, Q_GE732, Q_NB724_732, Q_NB732_724, Q_NB725_732, Q_NB732_725, Q_BK733, Q_GW733, Q_GE733, Q_NB724_733, Q_NB733_724, Q_NB725_733, Q_NB733_725, Q_BK732_e9, Q_BK733_e10, Q_X7_, Q_X8_⟩ hb_ hon hoff
    refine ⟨_, rfl, fun K hK => ?_⟩
    have e12 : a.tmps[12]? = some (.agg #[.int .i64 a0_0, .int .i64 a0_1, .int .i64 a0_2, .int .i64 a0_3]) := by rw [ha]; exact putSel_on (e := (5, 12, .agg #[.int .i64 a0_0, .int .i64 a0_1, .int .i64 a0_2, .int .i64 a0_3])) 5 rfl rfl (hon 5 (by kernel_rfl)) rfl
    replace ha := Aside0.mk ha
    have BK724 := Aside0.mk Q_BK724
    have BK725 := Aside0.mk Q_BK725
    have HB := Aside0.mk Q_HB
    refine goes_ Try.func55 (by kernel_rfl) rfl #[.agg #[.int .i64 a0_0, .int .i64 a0_1, .int .i64 a0_2, .int .i64 a0_3]] (by rfl) rfl rfl (by first | (simp only [List.map_toArray, List.map_cons, List.map_nil, Act.eval, Array.getD_eq_getD_getElem?, Option.getD_some, e12]; done) | (simp only [List.map_toArray, List.map_cons, List.map_nil, Act.eval, Array.getD_eq_getD_getElem?, Option.getD_some, e12]; rfl)) ?_
    with_reducible refine (impl_Mat_axis.calls k a0_0 a0_1 a0_2 a0_3 t730 t731 _ A5.out).mono ?_
    rintro e w34 ⟨rfl, hb⟩
    refine ⟨_, rfl, ?_⟩
    have n0_ := Aside0.mk (bbl BK724 hb)
    have n1_ := Aside0.mk (bbl BK725 hb)
    have n2_ := Aside0.mk (bst2 HB GE724 GE725 hb)
    have z_BK732 := fun (h0_ : b 7 = true) (h1_ : b 9 = false) => (show w34.heap[gb732]? = some (.cells #[.int .i64 0, .int .i64 0] 34 (0, 0)) from by first | exact (blk_below (g := gb732) (o := .cells #[.int .i64 0, .int .i64 0] 34 (0, 0)) (by (with_reducible repeat (first | refine blk_drewN ?_ _ | refine blk_drew ?_ | refine blk_alloc ?_ _)); exact (Q_BK732 h0_ h1_)) hb))
    have z_BK733 := fun (h0_ : b 8 = true) (h1_ : b 10 = false) => (show w34.heap[gb733]? = some (.cells #[.int .i64 0, .int .i64 0] 34 (0, 0)) from by first | exact (blk_below (g := gb733) (o := .cells #[.int .i64 0, .int .i64 0] 34 (0, 0)) (by (with_reducible repeat (first | refine blk_drewN ?_ _ | refine blk_drew ?_ | refine blk_alloc ?_ _)); exact (Q_BK733 h0_ h1_)) hb))
    clear BK724
    clear BK725
    clear HB
    have BK724 := n0_
    have BK725 := n1_
    have HB := n2_
    clear n0_ n1_ n2_
    (try clear hb)
    (try clear hb2)
    (try clear hk)
    (try clear hi)
    refine hK.out _ _ ⟨gb732, gb733, m7_, m8_, (by rw [ha.out]; exact putSel_upk 6 hb_ rfl rfl rfl), (bkp BK724), (bkp BK725), (bbw2 HB GE724 GE725), Q_NB733_732, Q_NB732_733, z_BK732, Q_GW732, Q_GE732, Q_NB724_732, Q_NB732_724, Q_NB725_732, Q_NB732_725, z_BK733, Q_GW733, Q_GE733, Q_NB724_733, Q_NB733_724, Q_NB725_733, Q_NB733_725, fun h0_ => absurd ((hoff 9 (by kernel_rfl)).symm.trans h0_) (by decide), fun h0_ => absurd ((hoff 10 (by kernel_rfl)).symm.trans h0_) (by decide), Q_X7_, Q_X8_⟩
   refine steps_cons ?_ ?_
   ·rintro b a w' ⟨gb732, gb733, m7_, m8_, ha, Q_BK724, Q_BK725, Q_HB, Q_NB733_732, Q_NB732_733, Q_BK732, Q_GW732, Q_GE732, Q_NB724_732, Q_NB732_724, Q_NB725_732, Q_NB732_725, Q_BK733, Q_GW733, Q_GE733, Q_NB724_733, Q_NB733_724, Q_NB725_733, Q_NB733_725, Q_BK732_e9, Q_BK733_e10, Q_X7_, Q_X8_⟩ hb_ hon hoff
    refine ⟨_, rfl, fun K hK => ?_⟩
    replace ha := Aside0.mk ha
    have BK724 := Aside0.mk Q_BK724
    have BK725 := Aside0.mk Q_BK725
    have HB := Aside0.mk Q_HB
    refine box_step ?hg (N := 5) ?hd (cs := #[.int .i64 0, .int .i64 0]) (t := 34) ?hr ?_; (case hd => rfl); (case hg => rfl); (case hr => first | (go_simp; done) | (go_simp; rfl))
    intro gb732 hg w31 hbox hb
    have n0_ := Aside0.mk (bbl BK724 hb)
    have n1_ := Aside0.mk (bbl BK725 hb)
    have n2_ := Aside0.mk (bst2 HB GE724 GE725 hb)
    have n3_ := Aside0.mk (hbox)
    have n4_ := ngw2 hg HB GE724 GE725
    have n5_ := ngw2 hg HB GE724 GE725
    have n6_ := nlt hg BK724
    have n7_ := nsy (nlt hg BK724)
    have n8_ := nlt hg BK725
    have n9_ := nsy (nlt hg BK725)
    have z_NB733_732 := fun (h0_ : up b 7 7 = true) (h1_ : up b 7 8 = true) => (show gb733 ≠ gb732 from ((by rw [hg]; exact Nat.ne_of_lt (by cases hq_ : b 10 with | false => exact blk_lt (g := gb733) (Q_BK733 h1_ hq_) | true => exact blk_lt (g := gb733) (Q_BK733_e10 hq_)) : gb733 ≠ gb732)))
    have z_NB732_733 := fun (h0_ : up b 7 7 = true) (h1_ : up b 7 8 = true) => (show gb732 ≠ gb733 from ((by rw [hg]; exact Nat.ne_of_gt (by cases hq_ : b 10 with | false => exact blk_lt (g := gb733) (Q_BK733 h1_ hq_) | true => exact blk_lt (g := gb733) (Q_BK733_e10 hq_)) : gb732 ≠ gb733)))
    have z_BK733 := fun (h0_ : b 8 = true) (h1_ : b 10 = false) => (show w31.heap[gb733]? = some (.cells #[.int .i64 0, .int .i64 0] 34 (0, 0)) from by first | exact (blk_below (g := gb733) (o := .cells #[.int .i64 0, .int .i64 0] 34 (0, 0)) (by (with_reducible repeat (first | refine blk_drewN ?_ _ | refine blk_drew ?_ | refine blk_alloc ?_ _)); exact (Q_BK733 h0_ h1_)) hb))
    clear BK724
    clear BK725
    clear HB
    have BK724 := n0_
    have BK725 := n1_
    have HB := n2_
    have BK732 := n3_
    have GW732 := n4_
    have GE732 := n5_
    have NB724_732 := n6_
    have NB732_724 := n7_
    have NB725_732 := n8_
    have NB732_725 := n9_
    clear n0_ n1_ n2_ n3_ n4_ n5_ n6_ n7_ n8_ n9_
    clear hb hbox hg
    refine hK.out _ _ ⟨gb732, gb733, (.pointer (some ⟨gb732, 0, none⟩)), m8_, (by rw [ha.out]; exact putSel_upk 7 hb_ rfl rfl rfl), (bkp BK724), (bkp BK725), (bbw3 HB GE724 GE725 GE732), @z_NB733_732, @z_NB732_733, fun _ _ => (bkp BK732), fun _ => GW732.out, fun _ => GE732.out, fun _ => NB724_732.out, fun _ => NB732_724.out, fun _ => NB725_732.out, fun _ => NB732_725.out, z_BK733, Q_GW733, Q_GE733, Q_NB724_733, Q_NB733_724, Q_NB725_733, Q_NB733_725, fun h0_ => absurd ((hoff 9 (by kernel_rfl)).symm.trans h0_) (by decide), fun h0_ => absurd ((hoff 10 (by kernel_rfl)).symm.trans h0_) (by decide), fun _ => rfl, Q_X8_⟩
   refine steps_cons ?_ ?_
   ·rintro b a w' ⟨gb732, gb733, m7_, m8_, ha, Q_BK724, Q_BK725, Q_HB, Q_NB733_732, Q_NB732_733, Q_BK732, Q_GW732, Q_GE732, Q_NB724_732, Q_NB732_724, Q_NB725_732, Q_NB732_725, Q_BK733, Q_GW733, Q_GE733, Q_NB724_733, Q_NB733_724, Q_NB725_733, Q_NB733_725, Q_BK732_e9, Q_BK733_e10, Q_X7_, Q_X8_⟩ hb_ hon hoff
    refine ⟨_, rfl, fun K hK => ?_⟩
    replace ha := Aside0.mk ha
    have BK724 := Aside0.mk Q_BK724
    have BK725 := Aside0.mk Q_BK725
    have HB := Aside0.mk Q_HB
    refine box_step ?hg (N := 6) ?hd (cs := #[.int .i64 0, .int .i64 0]) (t := 34) ?hr ?_; (case hd => rfl); (case hg => rfl); (case hr => first | (go_simp; done) | (go_simp; rfl))
    intro gb733 hg w31 hbox hb
    have n0_ := Aside0.mk (bbl BK724 hb)
    have n1_ := Aside0.mk (bbl BK725 hb)
    have n2_ := Aside0.mk (bst2 HB GE724 GE725 hb)
    have n3_ := Aside0.mk (hbox)
    have n4_ := ngw2 hg HB GE724 GE725
    have n5_ := ngw2 hg HB GE724 GE725
    have n6_ := nlt hg BK724
    have n7_ := nsy (nlt hg BK724)
    have n8_ := nlt hg BK725
    have n9_ := nsy (nlt hg BK725)
    have z_NB733_732 := fun (h0_ : up b 8 7 = true) (h1_ : up b 8 8 = true) => (show gb733 ≠ gb732 from ((by rw [hg]; exact Nat.ne_of_gt (by cases hq_ : b 9 with | false => exact blk_lt (g := gb732) (Q_BK732 h0_ hq_) | true => exact blk_lt (g := gb732) (Q_BK732_e9 hq_)) : gb733 ≠ gb732)))
    have z_NB732_733 := fun (h0_ : up b 8 7 = true) (h1_ : up b 8 8 = true) => (show gb732 ≠ gb733 from ((by rw [hg]; exact Nat.ne_of_lt (by cases hq_ : b 9 with | false => exact blk_lt (g := gb732) (Q_BK732 h0_ hq_) | true => exact blk_lt (g := gb732) (Q_BK732_e9 hq_)) : gb732 ≠ gb733)))
    have z_BK732 := fun (h0_ : b 7 = true) (h1_ : b 9 = false) => (show w31.heap[gb732]? = some (.cells #[.int .i64 0, .int .i64 0] 34 (0, 0)) from by first | exact (blk_below (g := gb732) (o := .cells #[.int .i64 0, .int .i64 0] 34 (0, 0)) (by (with_reducible repeat (first | refine blk_drewN ?_ _ | refine blk_drew ?_ | refine blk_alloc ?_ _)); exact (Q_BK732 h0_ h1_)) hb))
    clear BK724
    clear BK725
    clear HB
    have BK724 := n0_
    have BK725 := n1_
    have HB := n2_
    have BK733 := n3_
    have GW733 := n4_
    have GE733 := n5_
    have NB724_733 := n6_
    have NB733_724 := n7_
    have NB725_733 := n8_
    have NB733_725 := n9_
    clear n0_ n1_ n2_ n3_ n4_ n5_ n6_ n7_ n8_ n9_
    clear hb hbox hg
    refine hK.out _ _ ⟨gb732, gb733, m7_, (.pointer (some ⟨gb733, 0, none⟩)), (by rw [ha.out]; exact putSel_upk 8 hb_ rfl rfl rfl), (bkp BK724), (bkp BK725), (bbw3 HB GE724 GE725 GE733), @z_NB733_732, @z_NB732_733, z_BK732, Q_GW732, Q_GE732, Q_NB724_732, Q_NB732_724, Q_NB725_732, Q_NB732_725, fun _ _ => (bkp BK733), fun _ => GW733.out, fun _ => GE733.out, fun _ => NB724_733.out, fun _ => NB733_724.out, fun _ => NB725_733.out, fun _ => NB733_725.out, fun h0_ => absurd ((hoff 9 (by kernel_rfl)).symm.trans h0_) (by decide), fun h0_ => absurd ((hoff 10 (by kernel_rfl)).symm.trans h0_) (by decide), Q_X7_, fun _ => rfl⟩
   refine steps_cons ?_ ?_
   ·rintro b a w' ⟨gb732, gb733, m7_, m8_, ha, Q_BK724, Q_BK725, Q_HB, Q_NB733_732, Q_NB732_733, Q_BK732, Q_GW732, Q_GE732, Q_NB724_732, Q_NB732_724, Q_NB725_732, Q_NB732_725, Q_BK733, Q_GW733, Q_GE733, Q_NB724_733, Q_NB733_724, Q_NB725_733, Q_NB733_725, Q_BK732_e9, Q_BK733_e10, Q_X7_, Q_X8_⟩ hb_ hon hoff
    refine ⟨_, rfl, fun K hK => ?_⟩
    have e5 : a.tmps[5]? = some (m7_) := by rw [ha]; exact putSel_on (e := (7, 5, m7_)) 7 rfl rfl (hon 7 (by kernel_rfl)) rfl
    rw [Q_X7_ (hon 7 (by kernel_rfl))] at e5
    have e11 : a.tmps[11]? = some (.agg #[.int .i64 t728, .int .i64 t729]) := by rw [ha]; exact putSel_on (e := (4, 11, .agg #[.int .i64 t728, .int .i64 t729])) 4 rfl rfl (hon 4 (by kernel_rfl)) rfl
    replace ha := Aside0.mk ha
    have BK724 := Aside0.mk Q_BK724
    have BK725 := Aside0.mk Q_BK725
    have HB := Aside0.mk Q_HB
    have NB733_732 := Aside0.mk (Q_NB733_732 (hon 7 (by kernel_rfl)) (hon 8 (by kernel_rfl)))
    have NB732_733 := Aside0.mk (Q_NB732_733 (hon 7 (by kernel_rfl)) (hon 8 (by kernel_rfl)))
    have BK732 := Aside0.mk (Q_BK732 (hon 7 (by kernel_rfl)) hb_)
    have GW732 := Aside0.mk (Q_GW732 (hon 7 (by kernel_rfl)))
    have GE732 := Aside0.mk (Q_GE732 (hon 7 (by kernel_rfl)))
    have NB724_732 := Aside0.mk (Q_NB724_732 (hon 7 (by kernel_rfl)))
    have NB732_724 := Aside0.mk (Q_NB732_724 (hon 7 (by kernel_rfl)))
    have NB725_732 := Aside0.mk (Q_NB725_732 (hon 7 (by kernel_rfl)))
    have NB732_725 := Aside0.mk (Q_NB732_725 (hon 7 (by kernel_rfl)))
    have BK733 := Aside0.mk (Q_BK733 (hon 8 (by kernel_rfl)) (hoff 10 (by kernel_rfl)))
    have GW733 := Aside0.mk (Q_GW733 (hon 8 (by kernel_rfl)))
    have GE733 := Aside0.mk (Q_GE733 (hon 8 (by kernel_rfl)))
    have NB724_733 := Aside0.mk (Q_NB724_733 (hon 8 (by kernel_rfl)))
    have NB733_724 := Aside0.mk (Q_NB733_724 (hon 8 (by kernel_rfl)))
    have NB725_733 := Aside0.mk (Q_NB725_733 (hon 8 (by kernel_rfl)))
    have NB733_725 := Aside0.mk (Q_NB733_725 (hon 8 (by kernel_rfl)))
    have hs37 : w'.cell? ⟨gb732, 0, none⟩ = some (.int .i64 0) := bcl BK732 0
    have hfs37 := blk_frozen BK732.out 0
    have hns37_0 := NB724_732.out
    have hns37_1 := NB725_732.out
    have hns37_3 := NB733_732.out
    have hms37_0 := NB732_724.out
    have hms37_1 := NB732_725.out
    have hms37_3 := NB732_733.out
    have hs38 : w'.cell? ⟨gb732, 1, none⟩ = some (.int .i64 0) := bcl BK732 1
    have hfs38 := blk_frozen BK732.out 1
    have hns38_0 := NB724_732.out
    have hns38_1 := NB725_732.out
    have hns38_3 := NB733_732.out
    have hms38_0 := NB732_724.out
    have hms38_1 := NB732_725.out
    have hms38_3 := NB732_733.out
    refine skip_ (w1 := ?_) (by rfl) rfl ?_ ?_
    rotate_left
    ·go_simp
     rfl
    refine hK.out _ _ ⟨gb732, gb733, m7_, m8_, (by rw [ha.out]; exact putSel_none (v := undef) rfl), (by (with_reducible repeat (first | refine blk_drewN ?_ _ | refine blk_drew ?_ | refine blk_alloc ?_ _)); refine blk_far ?_ NB724_732.out _; (with_reducible repeat (first | refine blk_drewN ?_ _ | refine blk_drew ?_ | refine blk_alloc ?_ _)); refine blk_far ?_ NB724_732.out _; (with_reducible repeat (first | refine blk_drewN ?_ _ | refine blk_drew ?_ | refine blk_alloc ?_ _)); exact BK724.out), (by (with_reducible repeat (first | refine blk_drewN ?_ _ | refine blk_drew ?_ | refine blk_alloc ?_ _)); refine blk_far ?_ NB725_732.out _; (with_reducible repeat (first | refine blk_drewN ?_ _ | refine blk_drew ?_ | refine blk_alloc ?_ _)); refine blk_far ?_ NB725_732.out _; (with_reducible repeat (first | refine blk_drewN ?_ _ | refine blk_drew ?_ | refine blk_alloc ?_ _)); exact BK725.out), (bbw4 HB GE724 GE725 GE732 GE733), fun _ _ => NB733_732.out, fun _ _ => NB732_733.out, fun _ h1_ => absurd ((up_self b 9).symm.trans h1_) (by decide), fun _ => GW732.out, fun _ => GE732.out, fun _ => NB724_732.out, fun _ => NB732_724.out, fun _ => NB725_732.out, fun _ => NB732_725.out, fun _ _ => (by (with_reducible repeat (first | refine blk_drewN ?_ _ | refine blk_drew ?_ | refine blk_alloc ?_ _)); refine blk_far ?_ NB733_732.out _; (with_reducible repeat (first | refine blk_drewN ?_ _ | refine blk_drew ?_ | refine blk_alloc ?_ _)); refine blk_far ?_ NB733_732.out _; (with_reducible repeat (first | refine blk_drewN ?_ _ | refine blk_drew ?_ | refine blk_alloc ?_ _)); exact BK733.out), fun _ => GW733.out, fun _ => GE733.out, fun _ => NB724_733.out, fun _ => NB733_724.out, fun _ => NB725_733.out, fun _ => NB733_725.out, fun _ => (by (with_reducible repeat (first | refine blk_drewN ?_ _ | refine blk_drew ?_ | refine blk_alloc ?_ _)); refine blk_put (cs := #[.int .i64 t728, .int .i64 0]) ?_ 1 _ rfl; (with_reducible repeat (first | refine blk_drewN ?_ _ | refine blk_drew ?_ | refine blk_alloc ?_ _)); refine blk_put (cs := #[.int .i64 0, .int .i64 0]) ?_ 0 _ rfl; (with_reducible repeat (first | refine blk_drewN ?_ _ | refine blk_drew ?_ | refine blk_alloc ?_ _)); exact BK732.out), fun h0_ => absurd ((hoff 10 (by kernel_rfl)).symm.trans h0_) (by decide), Q_X7_, Q_X8_⟩
   refine steps_cons ?_ ?_
   ·rintro b a w' ⟨gb732, gb733, m7_, m8_, ha, Q_BK724, Q_BK725, Q_HB, Q_NB733_732, Q_NB732_733, Q_BK732, Q_GW732, Q_GE732, Q_NB724_732, Q_NB732_724, Q_NB725_732, Q_NB732_725, Q_BK733, Q_GW733, Q_GE733, Q_NB724_733, Q_NB733_724, Q_NB725_733, Q_NB733_725, Q_BK732_e9, Q_BK733_e10, Q_X7_, Q_X8_⟩ hb_ hon hoff
    refine ⟨_, rfl, fun K hK => ?_⟩
    have e6 : a.tmps[6]? = some (m8_) := by rw [ha]; exact putSel_on (e := (8, 6, m8_)) 8 rfl rfl (hon 8 (by kernel_rfl)) rfl
    rw [Q_X8_ (hon 8 (by kernel_rfl))] at e6
    have e13 : a.tmps[13]? = some (.agg #[.int .i64 t730, .int .i64 t731]) := by rw [ha]; exact putSel_on (e := (6, 13, .agg #[.int .i64 t730, .int .i64 t731])) 6 rfl rfl (hon 6 (by kernel_rfl)) rfl
    replace ha := Aside0.mk ha
    have BK724 := Aside0.mk Q_BK724
    have BK725 := Aside0.mk Q_BK725
    have HB := Aside0.mk Q_HB
    have NB733_732 := Aside0.mk (Q_NB733_732 (hon 7 (by kernel_rfl)) (hon 8 (by kernel_rfl)))
    have NB732_733 := Aside0.mk (Q_NB732_733 (hon 7 (by kernel_rfl)) (hon 8 (by kernel_rfl)))
    have GW732 := Aside0.mk (Q_GW732 (hon 7 (by kernel_rfl)))
    have GE732 := Aside0.mk (Q_GE732 (hon 7 (by kernel_rfl)))
    have NB724_732 := Aside0.mk (Q_NB724_732 (hon 7 (by kernel_rfl)))
    have NB732_724 := Aside0.mk (Q_NB732_724 (hon 7 (by kernel_rfl)))
    have NB725_732 := Aside0.mk (Q_NB725_732 (hon 7 (by kernel_rfl)))
    have NB732_725 := Aside0.mk (Q_NB732_725 (hon 7 (by kernel_rfl)))
    have BK733 := Aside0.mk (Q_BK733 (hon 8 (by kernel_rfl)) hb_)
    have GW733 := Aside0.mk (Q_GW733 (hon 8 (by kernel_rfl)))
    have GE733 := Aside0.mk (Q_GE733 (hon 8 (by kernel_rfl)))
    have NB724_733 := Aside0.mk (Q_NB724_733 (hon 8 (by kernel_rfl)))
    have NB733_724 := Aside0.mk (Q_NB733_724 (hon 8 (by kernel_rfl)))
    have NB725_733 := Aside0.mk (Q_NB725_733 (hon 8 (by kernel_rfl)))
    have NB733_725 := Aside0.mk (Q_NB733_725 (hon 8 (by kernel_rfl)))
    have BK732 := Aside0.mk (Q_BK732_e9 (hon 9 (by kernel_rfl)))
    have hs39 : w'.cell? ⟨gb733, 0, none⟩ = some (.int .i64 0) := bcl BK733 0
    have hfs39 := blk_frozen BK733.out 0
    have hns39_0 := NB724_733.out
    have hns39_1 := NB725_733.out
    have hns39_2 := NB732_733.out
    have hms39_0 := NB733_724.out
    have hms39_1 := NB733_725.out
    have hms39_2 := NB733_732.out
    have hs40 : w'.cell? ⟨gb733, 1, none⟩ = some (.int .i64 0) := bcl BK733 1
    have hfs40 := blk_frozen BK733.out 1
    have hns40_0 := NB724_733.out
    have hns40_1 := NB725_733.out
    have hns40_2 := NB732_733.out
    have hms40_0 := NB733_724.out
    have hms40_1 := NB733_725.out
    have hms40_2 := NB733_732.out
    refine skip_ (w1 := ?_) (by rfl) rfl ?_ ?_
    rotate_left
    ·go_simp
     rfl
    refine hK.out _ _ ⟨gb732, gb733, m7_, m8_, (by rw [ha.out]; exact putSel_none (v := undef) rfl), (by (with_reducible repeat (first | refine blk_drewN ?_ _ | refine blk_drew ?_ | refine blk_alloc ?_ _)); refine blk_far ?_ NB724_733.out _; (with_reducible repeat (first | refine blk_drewN ?_ _ | refine blk_drew ?_ | refine blk_alloc ?_ _)); refine blk_far ?_ NB724_733.out _; (with_reducible repeat (first | refine blk_drewN ?_ _ | refine blk_drew ?_ | refine blk_alloc ?_ _)); exact BK724.out), (by (with_reducible repeat (first | refine blk_drewN ?_ _ | refine blk_drew ?_ | refine blk_alloc ?_ _)); refine blk_far ?_ NB725_733.out _; (with_reducible repeat (first | refine blk_drewN ?_ _ | refine blk_drew ?_ | refine blk_alloc ?_ _)); refine blk_far ?_ NB725_733.out _; (with_reducible repeat (first | refine blk_drewN ?_ _ | refine blk_drew ?_ | refine blk_alloc ?_ _)); exact BK725.out), (bbw4 HB GE724 GE725 GE732 GE733), fun _ _ => NB733_732.out, fun _ _ => NB732_733.out, fun _ h1_ => absurd ((hon 9 (by kernel_rfl)).symm.trans h1_) (by decide), fun _ => GW732.out, fun _ => GE732.out, fun _ => NB724_732.out, fun _ => NB732_724.out, fun _ => NB725_732.out, fun _ => NB732_725.out, fun _ h1_ => absurd ((up_self b 10).symm.trans h1_) (by decide), fun _ => GW733.out, fun _ => GE733.out, fun _ => NB724_733.out, fun _ => NB733_724.out, fun _ => NB725_733.out, fun _ => NB733_725.out, fun _ => (by (with_reducible repeat (first | refine blk_drewN ?_ _ | refine blk_drew ?_ | refine blk_alloc ?_ _)); refine blk_far ?_ NB732_733.out _; (with_reducible repeat (first | refine blk_drewN ?_ _ | refine blk_drew ?_ | refine blk_alloc ?_ _)); refine blk_far ?_ NB732_733.out _; (with_reducible repeat (first | refine blk_drewN ?_ _ | refine blk_drew ?_ | refine blk_alloc ?_ _)); exact BK732.out), fun _ => (by (with_reducible repeat (first | refine blk_drewN ?_ _ | refine blk_drew ?_ | refine blk_alloc ?_ _)); refine blk_put (cs := #[.int .i64 t730, .int .i64 0]) ?_ 1 _ rfl; (with_reducible repeat (first | refine blk_drewN ?_ _ | refine blk_drew ?_ | refine blk_alloc ?_ _)); refine blk_put (cs := #[.int .i64 0, .int .i64 0]) ?_ 0 _ rfl; (with_reducible repeat (first | refine blk_drewN ?_ _ | refine blk_drew ?_ | refine blk_alloc ?_ _)); exact BK733.out), Q_X7_, Q_X8_⟩
   exact steps_nil
  rintro b a w40 hall ⟨gb732, gb733, m7_, m8_, ha, Q_BK724, Q_BK725, Q_HB, Q_NB733_732, Q_NB732_733, Q_BK732, Q_GW732, Q_GE732, Q_NB724_732, Q_NB732_724, Q_NB725_732, Q_NB732_725, Q_BK733, Q_GW733, Q_GE733, Q_NB724_733, Q_NB733_724, Q_NB725_733, Q_NB733_725, Q_BK732_e9, Q_BK733_e10, Q_X7_, Q_X8_⟩
  clear BK724 BK725 HB
  have hb0_ := hall 0 (by kernel_rfl)
  have hb1_ := hall 1 (by kernel_rfl)
  have hb2_ := hall 2 (by kernel_rfl)
  have hb3_ := hall 3 (by kernel_rfl)
  have hb4_ := hall 4 (by kernel_rfl)
  have hb5_ := hall 5 (by kernel_rfl)
  have hb6_ := hall 6 (by kernel_rfl)
  have hb7_ := hall 7 (by kernel_rfl)
  have hb8_ := hall 8 (by kernel_rfl)
  have hb9_ := hall 9 (by kernel_rfl)
  have hb10_ := hall 10 (by kernel_rfl)
  subst ha
  obtain rfl := Q_X7_ hb7_
  obtain rfl := Q_X8_ hb8_
  simp only [putSel, hb0_, hb1_, hb2_, hb3_, hb4_, hb5_, hb6_, hb7_, hb8_, hb9_, hb10_, if_true, Act.put, sA, sB, sC]
  have BK724 := Aside0.mk Q_BK724
  clear Q_BK724
  have BK725 := Aside0.mk Q_BK725
  clear Q_BK725
  have HB := Aside0.mk Q_HB
  clear Q_HB
  have NB733_732 := Aside0.mk (Q_NB733_732 hb7_ hb8_)
  clear Q_NB733_732
  have NB732_733 := Aside0.mk (Q_NB732_733 hb7_ hb8_)
  clear Q_NB732_733
  clear Q_BK732
  have GW732 := Aside0.mk (Q_GW732 hb7_)
  clear Q_GW732
  have GE732 := Aside0.mk (Q_GE732 hb7_)
  clear Q_GE732
  have NB724_732 := Aside0.mk (Q_NB724_732 hb7_)
  clear Q_NB724_732
  have NB732_724 := Aside0.mk (Q_NB732_724 hb7_)
  clear Q_NB732_724
  have NB725_732 := Aside0.mk (Q_NB725_732 hb7_)
  clear Q_NB725_732
  have NB732_725 := Aside0.mk (Q_NB732_725 hb7_)
  clear Q_NB732_725
  clear Q_BK733
  have GW733 := Aside0.mk (Q_GW733 hb8_)
  clear Q_GW733
  have GE733 := Aside0.mk (Q_GE733 hb8_)
  clear Q_GE733
  have NB724_733 := Aside0.mk (Q_NB724_733 hb8_)
  clear Q_NB724_733
  have NB733_724 := Aside0.mk (Q_NB733_724 hb8_)
  clear Q_NB733_724
  have NB725_733 := Aside0.mk (Q_NB725_733 hb8_)
  clear Q_NB725_733
  have NB733_725 := Aside0.mk (Q_NB733_725 hb8_)
  clear Q_NB733_725
  have BK732 := Aside0.mk (Q_BK732_e9 hb9_)
  clear Q_BK732_e9
  have BK733 := Aside0.mk (Q_BK733_e10 hb10_)
  clear Q_BK733_e10
  clear hall hb0_ hb1_ hb2_ hb3_ hb4_ hb5_ hb6_ hb7_ hb8_ hb9_ hb10_
  have hnb41 := NB733_724.out
  have hnc41 := NB724_733.out
  have hnb42 := NB733_725.out
  have hnc42 := NB725_733.out
  have hnb43 := NB733_732.out
  have hnc43 := NB732_733.out
  have hcz44_0 : w40.cell? ⟨gb733, 0, none⟩ = some (.int .i64 t730) := bcl BK733 0
  have hcz44_1 : w40.cell? ⟨gb733, 1, none⟩ = some (.int .i64 t731) := bcl BK733 1
  have hfz44_0 := blk_frozen BK733.out 0
  have hfz44_1 := blk_frozen BK733.out 1
  have hnb45 := NB732_724.out
  have hnc45 := NB724_732.out
  have hnb46 := NB732_725.out
  have hnc46 := NB725_732.out
  have hcz47_0 : w40.cell? ⟨gb732, 0, none⟩ = some (.int .i64 t728) := bcl BK732 0
  have hcz47_1 : w40.cell? ⟨gb732, 1, none⟩ = some (.int .i64 t729) := bcl BK732 1
  have hfz47_0 := blk_frozen BK732.out 0
  have hfz47_1 := blk_frozen BK732.out 1
  try go_wp2
  go_ret
  exact ⟨by first | rfl | (simp [errW_none, errW_some] <;> rfl) | (simp [*, errW_none, errW_some] <;> rfl), bbw4 HB GE724 GE725 GE732 GE733⟩
end Go.Proofs.Ytndfnaehpdkaiaa.PA
