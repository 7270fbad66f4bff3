import Derived.Test.YtdodghjnlekgeaaGreatPAx0
import Derived.Test.YtdodghjnlekgeaaGreatPAx10
import Derived.Test.YtdodghjnlekgeaaGreatPAx14
namespace Go.Proofs.YtdodghjnlekgeaaGreat.PA
open Go.RowKit Go.Proofs.YtdodghjnlekgeaaGreatW.PrintWords Go.Proofs.YtdodghjnlekgeaaGreatW.PrintLast Go.Proofs.YtdodghjnlekgeaaGreatW.PrintMore
attribute [local go_sem] max2_int min2_int max_two min_two max_three min_three max_four min_four   -- for this text's walks alone
set_option linter.unusedVariables false
set_option linter.unusedSimpArgs false
mutual
def impl_closeGroup.l0 : Nat → List (S48) → List (S48) → List (S48) → Int → Int → Int → Int → Option ((List (S48)))
 | 0, _, _, _, _, _, _, _ => none
 | k + 1, x1, x5, x6, x7, x463000, x463001, x463002 => if x7 < (x5.length : Int) then (impl_closeGroup.l1 k x1 x5 x6 x7 x1 (x1.length : Int) 0 x463000 x463001 x463002) else (if x5.length < 2932031007402 then (some (impl_Motion_74.srtMo x5)) else (none))
def impl_closeGroup.l1 : Nat → List (S48) → List (S48) → List (S48) → Int → List (S48) → Int → Int → Int → Int → Int → Option ((List (S48)))
 | 0, _, _, _, _, _, _, _, _, _, _ => none
 | k + 1, x1, x5, x6, x7, x25, x26, x27, x463000, x463001, x463002 => if x27 < x26 then (if 0 ≤ x27 then (if x27 < (x25.length : Int) then (if 0 ≤ x7 then (if x7 < (x5.length : Int) then ((impl_Motion_times.f ((rd_T48 x25 x27).f0.f0) ((rd_T48 x25 x27).f0.f1) ((rd_T48 x25 x27).f0.f2) ((rd_T48 x25 x27).f0.f3) ((rd_T48 x25 x27).f1.f0) ((rd_T48 x25 x27).f1.f1) ((rd_T48 x5 x7).f0.f0) ((rd_T48 x5 x7).f0.f1) ((rd_T48 x5 x7).f0.f2) ((rd_T48 x5 x7).f0.f3) ((rd_T48 x5 x7).f1.f0) ((rd_T48 x5 x7).f1.f1)).bind fun bt483 => ((impl_Lattice_reduceMotion.f x463000 x463001 x463002 bt483.1 bt483.2.1 bt483.2.2.1 bt483.2.2.2.1 bt483.2.2.2.2.1 bt483.2.2.2.2.2).bind fun bt489 => ((mapMo.has k x6 bt489.1 bt489.2.1 bt489.2.2.1 bt489.2.2.2.1 bt489.2.2.2.2.1 bt489.2.2.2.2.2).bind fun t496 => (if t496 = true then (impl_closeGroup.l1 k x1 x5 x6 x7 x25 x26 (wrap64 (x27 + 1)) x463000 x463001 x463002) else (if (x6.length < 2932031007402 ∧ mapMo.wf (⟨(⟨bt489.1, bt489.2.1, bt489.2.2.1, bt489.2.2.2.1⟩ : S46), (⟨bt489.2.2.2.2.1, bt489.2.2.2.2.2⟩ : S38)⟩ : S48) = true) then (if x5.length < 2932031007402 then (impl_closeGroup.l1 k x1 (x5 ++ [(⟨(⟨bt489.1, bt489.2.1, bt489.2.2.1, bt489.2.2.2.1⟩ : S46), (⟨bt489.2.2.2.2.1, bt489.2.2.2.2.2⟩ : S38)⟩ : S48)]) (x6 ++ [(⟨(⟨bt489.1, bt489.2.1, bt489.2.2.1, bt489.2.2.2.1⟩ : S46), (⟨bt489.2.2.2.2.1, bt489.2.2.2.2.2⟩ : S38)⟩ : S48)]) x7 x25 x26 (wrap64 (x27 + 1)) x463000 x463001 x463002) else (none)) else (none)))))) else (none)) else (none)) else (none)) else (none)) else (impl_closeGroup.l0 k x1 x5 x6 (wrap64 (x7 + 1)) x463000 x463001 x463002)
end
def impl_closeGroup.f (k : Nat) (a0_0 : Int) (a0_1 : Int) (a0_2 : Int) (l1 : List (S48)) : Option ((List (S48))) := (impl_unit.f).bind fun bt463 => ((some (([(⟨(⟨bt463.1, bt463.2.1, bt463.2.2.1, bt463.2.2.2⟩ : S46), (⟨0, 0⟩ : S38)⟩ : S48)] : List (S48)) : List (S48))).bind fun y467 => ((some (([] : List (S48)) : List (S48))).bind fun y470 => (if 0 < (y467.length : Int) then (if (y470.length < 2932031007402 ∧ mapMo.wf (⟨(⟨(rd_T48 y467 0).f0.f0, (rd_T48 y467 0).f0.f1, (rd_T48 y467 0).f0.f2, (rd_T48 y467 0).f0.f3⟩ : S46), (⟨(rd_T48 y467 0).f1.f0, (rd_T48 y467 0).f1.f1⟩ : S38)⟩ : S48) = true) then (impl_closeGroup.l0 k l1 y467 (y470 ++ [(⟨(⟨(rd_T48 y467 0).f0.f0, (rd_T48 y467 0).f0.f1, (rd_T48 y467 0).f0.f2, (rd_T48 y467 0).f0.f3⟩ : S46), (⟨(rd_T48 y467 0).f1.f0, (rd_T48 y467 0).f1.f1⟩ : S38)⟩ : S48)]) 0 a0_0 a0_1 a0_2) else (none)) else (none))))
def impl_closeGroup.T9 : Bool × List (List Nat × List Nat) := (true, [([], []), ([], []), ([], []), ([], []), ([2, 3], [2, 3]), ([4], [4]), ([1, 5], [1, 5]), ([0, 6, 6], [0, 6]), ([], []), ([8, 7, 7, 0, 1, 2, 3, 4, 5, 6, 7, 8], [7, 8])])
def impl_closeGroup.B9 : List Nat := [0, 0, 0, 0, 12, 28, 62, 127, 0, 511]
theorem impl_closeGroup.tab9 : rtab .any (opsOf Tryz.f37 9) = impl_closeGroup.T9 := by kernel_rfl
theorem impl_closeGroup.bits9 : waitsOk impl_closeGroup.T9.2 impl_closeGroup.B9 = true := by kernel_rfl
set_option maxHeartbeats 80000000 in
set_option maxRecDepth 100000 in
theorem impl_closeGroup.calls (k : Nat) (a0_0 : Int) (a0_1 : Int) (a0_2 : Int) (A1 : Option Addr) (c1 : Nat) (l1 : List (S48)) (r : List (S48)) (w : World) (hr1 : Kd.C k48 w A1 l1.length l1) (hc1 : l1.length ≤ c1) (h : impl_closeGroup.f k a0_0 a0_1 a0_2 l1 = some r) :
  Calls Tryz.prog 37 #[.agg #[.int .i64 a0_0, .int .i64 a0_1, .int .i64 a0_2], .slice A1 l1.length c1] w fun e w' => ∃ v0_ : Value, e = .returned (v0_) ∧ Kd.R k48 48 w' w.heap.size (fun _ => True) v0_ r ∧ Below w.heap.size w w' := by
 have hu29 := Tryz.underlying29
 have hu48 := Tryz.underlying48
 have HR1 := Aside0.mk hr1
 have HC1 := Aside0.mk hc1
 clear hr1 hc1
 have HB := asd (Below.refl w.heap.size w)
 have H : ((impl_unit.f).bind fun bt463 => ((some (([(⟨(⟨bt463.1, bt463.2.1, bt463.2.2.1, bt463.2.2.2⟩ : S46), (⟨0, 0⟩ : S38)⟩ : S48)] : List (S48)) : List (S48))).bind fun y467 => ((some (([] : List (S48)) : List (S48))).bind fun y470 => (if 0 < (y467.length : Int) then (if (y470.length < 2932031007402 ∧ mapMo.wf (⟨(⟨(rd_T48 y467 0).f0.f0, (rd_T48 y467 0).f0.f1, (rd_T48 y467 0).f0.f2, (rd_T48 y467 0).f0.f3⟩ : S46), (⟨(rd_T48 y467 0).f1.f0, (rd_T48 y467 0).f1.f1⟩ : S38)⟩ : S48) = true) then (impl_closeGroup.l0 k l1 y467 (y470 ++ [(⟨(⟨(rd_T48 y467 0).f0.f0, (rd_T48 y467 0).f0.f1, (rd_T48 y467 0).f0.f2, (rd_T48 y467 0).f0.f3⟩ : S46), (⟨(rd_T48 y467 0).f1.f0, (rd_T48 y467 0).f1.f1⟩ : S38)⟩ : S48)]) 0 a0_0 a0_1 a0_2) else (none)) else (none))))) = some r := h
 clear h
 obtain ⟨⟨t463, t464, t465, t466⟩, A3, H⟩ := ob H
 try dsimp only at H
 obtain ⟨y467, hy467⟩ : ∃ y_ : List (S48), y_ = (([(⟨(⟨t463, t464, t465, t466⟩ : S46), (⟨0, 0⟩ : S38)⟩ : S48)] : List (S48))) := ⟨_, rfl⟩
 replace H : ((some (([] : List (S48)) : List (S48))).bind fun y470 => (if 0 < (y467.length : Int) then (if (y470.length < 2932031007402 ∧ mapMo.wf (⟨(⟨(rd_T48 y467 0).f0.f0, (rd_T48 y467 0).f0.f1, (rd_T48 y467 0).f0.f2, (rd_T48 y467 0).f0.f3⟩ : S46), (⟨(rd_T48 y467 0).f1.f0, (rd_T48 y467 0).f1.f1⟩ : S38)⟩ : S48) = true) then (impl_closeGroup.l0 k l1 y467 (y470 ++ [(⟨(⟨(rd_T48 y467 0).f0.f0, (rd_T48 y467 0).f0.f1, (rd_T48 y467 0).f0.f2, (rd_T48 y467 0).f0.f3⟩ : S46), (⟨(rd_T48 y467 0).f1.f0, (rd_T48 y467 0).f1.f1⟩ : S38)⟩ : S48)]) 0 a0_0 a0_1 a0_2) else (none)) else (none))) = some r := by first | (rw [hy467]; with_reducible exact H) | (have H2_ := (Option.bind_some _ _).symm.trans H; rw [hy467]; with_reducible exact H2_) | (have H2_ := (Option.bind_some _ _).symm.trans H; with_reducible exact H2_) | with_reducible exact H | (rw [hy467]; exact H) | exact H
 have Ny467 := Aside0.mk hy467
 clear hy467
 obtain ⟨y470, hy470⟩ : ∃ y_ : List (S48), y_ = (([] : List (S48))) := ⟨_, rfl⟩
 replace H : (if 0 < (y467.length : Int) then (if (y470.length < 2932031007402 ∧ mapMo.wf (⟨(⟨(rd_T48 y467 0).f0.f0, (rd_T48 y467 0).f0.f1, (rd_T48 y467 0).f0.f2, (rd_T48 y467 0).f0.f3⟩ : S46), (⟨(rd_T48 y467 0).f1.f0, (rd_T48 y467 0).f1.f1⟩ : S38)⟩ : S48) = true) then (impl_closeGroup.l0 k l1 y467 (y470 ++ [(⟨(⟨(rd_T48 y467 0).f0.f0, (rd_T48 y467 0).f0.f1, (rd_T48 y467 0).f0.f2, (rd_T48 y467 0).f0.f3⟩ : S46), (⟨(rd_T48 y467 0).f1.f0, (rd_T48 y467 0).f1.f1⟩ : S38)⟩ : S48)]) 0 a0_0 a0_1 a0_2) else (none)) else (none)) = some r := by first | (rw [hy470]; with_reducible exact H) | (have H2_ := (Option.bind_some _ _).symm.trans H; rw [hy470]; with_reducible exact H2_) | (have H2_ := (Option.bind_some _ _).symm.trans H; with_reducible exact H2_) | with_reducible exact H | (rw [hy470]; exact H) | exact H
 have Ny470 := Aside0.mk hy470
 clear hy470
 by_cases c4 : 0 < (y467.length : Int)
 ·rw [if_pos c4] at H
  have c4b0 := decide_eq_true c4
  have c4b1 : decide (0 < y467.length) = true := decide_eq_true (by omega)
  clear c4
  by_cases c5 : (y470.length < 2932031007402 ∧ mapMo.wf (⟨(⟨(rd_T48 y467 0).f0.f0, (rd_T48 y467 0).f0.f1, (rd_T48 y467 0).f0.f2, (rd_T48 y467 0).f0.f3⟩ : S46), (⟨(rd_T48 y467 0).f1.f0, (rd_T48 y467 0).f1.f1⟩ : S38)⟩ : S48) = true)
  ·rw [if_pos c5] at H
   have LMc5 := Aside0.mk c5
   clear c5
   obtain ⟨y474, hy474⟩ : ∃ y_ : List (S48), y_ = (y470 ++ [(⟨(⟨(rd_T48 y467 0).f0.f0, (rd_T48 y467 0).f0.f1, (rd_T48 y467 0).f0.f2, (rd_T48 y467 0).f0.f3⟩ : S46), (⟨(rd_T48 y467 0).f1.f0, (rd_T48 y467 0).f1.f1⟩ : S38)⟩ : S48)]) := ⟨_, rfl⟩
   replace H : (impl_closeGroup.l0 k l1 y467 y474 0 a0_0 a0_1 a0_2) = some r := by first | (rw [hy474]; with_reducible exact H) | (have H2_ := (Option.bind_some _ _).symm.trans H; rw [hy474]; with_reducible exact H2_) | (have H2_ := (Option.bind_some _ _).symm.trans H; with_reducible exact H2_) | with_reducible exact H | (rw [hy474]; exact H) | exact H
   have Ny474 := Aside0.mk hy474
   clear hy474
   have H' := Aside0.mk H
   clear H
   go_enter Tryz.func37, Tryz.ntmps37
   go_wp2_with (first | ((with_reducible refine gd 2 rfl ?_); refine bx #[.int .i64 a0_0, .int .i64 a0_1, .int .i64 a0_2] 29 ?_; intro gb462 hg w6 BK462 hb; have GE462 := ngw0 hg HB; replace HB := bS0 HB hb; clear hb hg) | ((with_reducible refine gate_callee (f := 71) rfl ?_); refine gl 11 Tryz.func71 #[] ?_; (with_reducible refine (impl_unit.calls _ _ _ _ _ A3.out).mono ?_); rintro e w7 ⟨rfl, hb⟩; refine ⟨_, rfl, ?_⟩; replace BK462 := bB BK462 hb; replace HB := bS1 HB GE462 hb; (try clear hb)) | ((with_reducible refine gd 13 rfl ?_); refine Kd.R_lit k48 _ 48 ?hg (N := 13) ?hd (xs := ([(⟨(⟨t463, t464, t465, t466⟩ : S46), (⟨0, 0⟩ : S38)⟩ : S48)] : List (S48))) (inner := [.int .i64 t463, .int .i64 t464, .int .i64 t465, .int .i64 t466, .int .i64 0, .int .i64 0]) (ok := fun _ => True) (okp := fun _ => True) ?hr ?hp (fun _ hk => hk) trivial (Below.refl _ _) (Nat.le_refl _) (by simp) ?_; (case hd => rfl); (case hg => rfl); (case hr => first | (go_simp; done) | (go_simp; rfl)); (case hp => exact (Reps.c6 (show Kd.M k48 _ _ _ (⟨(⟨t463, t464, t465, t466⟩ : S46), (⟨0, 0⟩ : S38)⟩ : S48) [.int .i64 t463, .int .i64 t464, .int .i64 t465, .int .i64 t466, .int .i64 0, .int .i64 0] from (k48_mkM _ _ _ (⟨(⟨t463, t464, t465, t466⟩ : S46), (⟨0, 0⟩ : S38)⟩ : S48) )) (Reps.none _ _))); intro v468 w8 ho9 hb hg_ hnew_; clear hg_ hnew_; (first | rw [← Ny467.out] at ho9 | (simp only [Int.reduceToNat] at ho9; rw [← Ny467.out] at ho9)); have HO469 := asd (Kd.R_lower ho9 (bsz1 HB GE462)); replace BK462 := bB BK462 hb; replace HB := bS1 HB GE462 hb; clear hb ho9) | ((with_reducible refine gd 14 rfl ?_); refine mapMo.make_event ?hg (N := 14) ?hd ?hr ?_; (case hd => rfl); (case hg => rfl); (case hr => first | rfl | (go_simp; done) | (go_simp; rfl)); intro gbM hg w10 hmap_ hb; rw [← Ny470.out] at hmap_; have GEM := asd ((by rw [hg]; exact (bsz1 HB GE462) : w.heap.size ≤ gbM)); clear hg; replace HO469 := asd (Kd.R_below (kr HO469) hb); have HO472 := Aside0.mk hmap_; replace BK462 := bB BK462 hb; replace HB := bS1 HB GE462 hb; clear hb hmap_; obtain ⟨Ao12, co12, eo12⟩ := Kd.R_slice HO469.out; subst eo12; have p473 : 0 ≤ (0 : Int) := (by omega); have q473 : 0 < (y467.length : Int) := od; obtain ⟨ad473, e473, hx473_0, hx473_1, hx473_2, hx473_3, hx473_4, hx473_5⟩ := at_T48 (Kd.R_reads' HO469.out).2.2 0 p473 q473; cases e473; have qi473 : (0 < y467.length) = True := eq_true (by omega); (try rw [show ((0 : Int)).toNat = 0 from rfl] at hx473_0); (try rw [show 0 * 6 = 0 from rfl] at hx473_0); (try rw [Addr.add_zero'] at hx473_0); (try rw [show ((0 : Int)).toNat = 0 from rfl] at hx473_1); (try rw [show 0 * 6 = 0 from rfl] at hx473_1); (try rw [Addr.add_zero'] at hx473_1); (try rw [show ((0 : Int)).toNat = 0 from rfl] at hx473_2); (try rw [show 0 * 6 = 0 from rfl] at hx473_2); (try rw [Addr.add_zero'] at hx473_2); (try rw [show ((0 : Int)).toNat = 0 from rfl] at hx473_3); (try rw [show 0 * 6 = 0 from rfl] at hx473_3); (try rw [Addr.add_zero'] at hx473_3); (try rw [show ((0 : Int)).toNat = 0 from rfl] at hx473_4); (try rw [show 0 * 6 = 0 from rfl] at hx473_4); (try rw [Addr.add_zero'] at hx473_4); (try rw [show ((0 : Int)).toNat = 0 from rfl] at hx473_5); (try rw [show 0 * 6 = 0 from rfl] at hx473_5); (try rw [Addr.add_zero'] at hx473_5); replace p473 := eq_true p473; replace q473 := eq_true q473) | ((with_reducible refine mapMo.gate_ins rfl ?_); refine mapMo.ins_event rfl _ _ _ rfl rfl (by (with_reducible repeat (first | apply mapMo.MS_alloc | apply mapMo.MS_drewN | apply mapMo.MS_drew)); exact HO472.out) (⟨(⟨(rd_T48 y467 0).f0.f0, (rd_T48 y467 0).f0.f1, (rd_T48 y467 0).f0.f2, (rd_T48 y467 0).f0.f3⟩ : S46), (⟨(rd_T48 y467 0).f1.f0, (rd_T48 y467 0).f1.f1⟩ : S38)⟩ : S48) rfl rfl LMc5.out.2 LMc5.out.1 ?_; intro w13 ho hg; rw [← Ny474.out] at ho; have hb : Below w.heap.size w w13 := mapMo.below_put (bbw1 HB GE462) GEM.out hg; have n0_ := asd (mapMo.blk_put (g := gb462) (cs := #[.int .i64 a0_0, .int .i64 a0_1, .int .i64 a0_2]) (t := 29) (bkp BK462) (by (with_reducible repeat (first | apply mapMo.MS_alloc | apply mapMo.MS_drewN | apply mapMo.MS_drew)); exact HO472.out) hg); have n1_ := asd (mapMo.R_map (kr HO469) (by (with_reducible repeat (first | apply mapMo.MS_alloc | apply mapMo.MS_drewN | apply mapMo.MS_drew)); exact HO472.out) hg); have n2_ := asd (hb); have n3_ := asd (ho); clear BK462; clear HO469; clear HB; clear HO472; have BK462 := n0_; have HO469 := n1_; have HB := n2_; have HO476 := n3_; clear n0_ n1_ n2_ n3_; clear ho hb hg))
   go_loopg [5, 7] k (fun kq v5 v7 w' => ∃ (x5_1 : List (S48)) (x6_1 : List (S48)) (x7_1 : Int), v7 = .int .i64 x7_1 ∧ Aside0 (impl_closeGroup.l0 kq l1 x5_1 x6_1 x7_1 a0_0 a0_1 a0_2 = some r) ∧ Aside0 (kq ≤ k) ∧ Aside0 (Kd.R k48 48 w' w.heap.size (fun _ => True) v5 x5_1) ∧ Aside0 (mapMo.MS w' gbM x6_1) ∧ Aside0 (w'.heap[gb462]? = some (.cells #[.int .i64 a0_0, .int .i64 a0_1, .int .i64 a0_2] 29 (0, 0))) ∧ Aside0 (Below w.heap.size w w'))
   case atStart => exact ⟨(y467), (y474), (0), (by first | rfl | (simp; done) | (simp [*]; done)), H', ⟨Nat.le_refl _⟩, ⟨by (with_reducible repeat (first | apply Kd.R_alloc | apply Kd.R_drewN | apply Kd.R_drew)); exact HO469.out⟩, ⟨by (with_reducible repeat (first | apply mapMo.MS_alloc | apply mapMo.MS_drewN | apply mapMo.MS_drew)); exact HO476.out⟩, ⟨bkp BK462⟩, ⟨bbw1 HB GE462⟩⟩
   case round =>
    clear H'
    try clear c1
    try clear p2
    try clear c3
    try clear c4
    try clear c4b0
    try clear c4b1
    try clear p4
    try clear q4
    try clear hx4
    try clear qi4
    try clear c5
    try clear c6
    try clear c7
    try clear hx473_0
    try clear hx473_1
    try clear hx473_2
    try clear hx473_3
    try clear hx473_4
    try clear hx473_5
    try clear p473
    try clear q473
    obtain ⟨x5_1, x6_1, x7_1, rfl, HA, HK1, HO_5, HO_6, BK462, HB⟩ := hrel
    cases gk with
    | zero => exact absurd HA.out (by simp [impl_closeGroup.l0])
    | succ k1 =>
     have H := HA.out
     clear HA
     simp only [impl_closeGroup.l0] at H
     by_cases c14 : x7_1 < (x5_1.length : Int)
     ·rw [if_pos c14] at H
      have c14b0 := decide_eq_true c14
      clear c14
      have H' := Aside0.mk H
      clear H
      obtain ⟨Ao15, co15, eo15⟩ := Kd.R_slice HO_5.out
      subst eo15
      go_wp2
      go_loopg [5, 27] k1 (fun kq v5 v27 w' => ∃ (x5_2 : List (S48)) (x6_2 : List (S48)) (x27_2 : Int), v27 = .int .i64 x27_2 ∧ Aside0 (impl_closeGroup.l1 kq l1 x5_2 x6_2 x7_1 l1 (l1.length : Int) x27_2 a0_0 a0_1 a0_2 = some r) ∧ Aside0 (kq ≤ k1) ∧ Aside0 (Kd.R k48 48 w' w.heap.size (fun _ => True) v5 x5_2) ∧ Aside0 (mapMo.MS w' gbM x6_2) ∧ Aside0 (w'.heap[gb462]? = some (.cells #[.int .i64 a0_0, .int .i64 a0_1, .int .i64 a0_2] 29 (0, 0))) ∧ Aside0 (Below w.heap.size w w'))
      case atStart => exact ⟨(x5_1), (x6_1), (0), (by first | rfl | (simp; done) | (simp [*]; done)), H', ⟨Nat.le_refl _⟩, ⟨by (with_reducible repeat (first | apply Kd.R_alloc | apply Kd.R_drewN | apply Kd.R_drew)); exact HO_5.out⟩, ⟨by (with_reducible repeat (first | apply mapMo.MS_alloc | apply mapMo.MS_drewN | apply mapMo.MS_drew)); exact HO_6.out⟩, ⟨bkp BK462⟩, ⟨bbw1 HB GE462⟩⟩
      case round =>
       clear H'
       try clear c1
       try clear p2
       try clear c3
       try clear c4
       try clear c4b0
       try clear c4b1
       try clear p4
       try clear q4
       try clear hx4
       try clear qi4
       try clear c5
       try clear c6
       try clear c7
       try clear c14
       try clear c14b0
       try clear hx473_0
       try clear hx473_1
       try clear hx473_2
       try clear hx473_3
       try clear hx473_4
       try clear hx473_5
       try clear p2
       try clear p4
       try clear p473
       try clear q4
       try clear q473
       obtain ⟨x5_2, x6_2, x27_2, rfl, HA, HK2, HO_5, HO_6, BK462, HB⟩ := hrel
       cases gk with
       | zero => exact absurd HA.out (by simp [impl_closeGroup.l1])
       | succ k2 =>
        have H := HA.out
        clear HA
        simp only [impl_closeGroup.l1] at H
        by_cases c16 : x27_2 < (l1.length : Int)
        rw [if_pos c16] at H
        have c16b0 := decide_eq_true c16
        clear c16
        by_cases c17 : 0 ≤ x27_2
        rw [if_pos c17] at H
        have c17b0 := decide_eq_true c17
        clear c17
        by_cases c18 : x27_2 < (l1.length : Int)
        rw [if_pos c18] at H
        have c18b0 := decide_eq_true c18
        clear c18
        by_cases c19 : 0 ≤ x7_1
        rw [if_pos c19] at H
        have c19b0 := decide_eq_true c19
        clear c19
        by_cases c20 : x7_1 < (x5_2.length : Int)
        rw [if_pos c20] at H
        have c20b0 := decide_eq_true c20
        clear c20
        obtain ⟨⟨t483, t484, t485, t486, t487, t488⟩, A21, H⟩ := ob H
        try dsimp only at H
        obtain ⟨⟨t489, t490, t491, t492, t493, t494⟩, A22, H⟩ := ob H
        try dsimp only at H
        obtain ⟨t496, A23, H⟩ := ob H
        try dsimp only at H
        by_cases c24 : t496 = true
        subst c24
        replace H := ifT H
        have H' := Aside0.mk H
        clear H
        rotate_left
        replace c24 := Bool.eq_false_iff.mpr c24
        subst c24
        replace H := ifF H
        by_cases c46 : (x6_2.length < 2932031007402 ∧ mapMo.wf (⟨(⟨t489, t490, t491, t492⟩ : S46), (⟨t493, t494⟩ : S38)⟩ : S48) = true)
        rw [if_pos c46] at H
        have LMc46 := Aside0.mk c46
        clear c46
        obtain ⟨y497, hy497⟩ : ∃ y_ : List (S48), y_ = (x6_2 ++ [(⟨(⟨t489, t490, t491, t492⟩ : S46), (⟨t493, t494⟩ : S38)⟩ : S48)]) := ⟨_, rfl⟩
        replace H : (if x5_2.length < 2932031007402 then (impl_closeGroup.l1 k2 l1 (x5_2 ++ [(⟨(⟨t489, t490, t491, t492⟩ : S46), (⟨t493, t494⟩ : S38)⟩ : S48)]) y497 x7_1 l1 (l1.length : Int) (wrap64 (x27_2 + 1)) a0_0 a0_1 a0_2) else (none)) = some r := by first | (rw [hy497]; with_reducible exact H) | (have H2_ := (Option.bind_some _ _).symm.trans H; rw [hy497]; with_reducible exact H2_) | (have H2_ := (Option.bind_some _ _).symm.trans H; with_reducible exact H2_) | with_reducible exact H | (rw [hy497]; exact H) | exact H
        have Ny497 := Aside0.mk hy497
        clear hy497
        by_cases c47 : x5_2.length < 2932031007402
        rw [if_pos c47] at H
        have LMc47 := Aside0.mk c47
        clear c47
        obtain ⟨y500, hy500⟩ : ∃ y_ : List (S48), y_ = (x5_2 ++ [(⟨(⟨t489, t490, t491, t492⟩ : S46), (⟨t493, t494⟩ : S38)⟩ : S48)]) := ⟨_, rfl⟩
        replace H : (impl_closeGroup.l1 k2 l1 y500 y497 x7_1 l1 (l1.length : Int) (wrap64 (x27_2 + 1)) a0_0 a0_1 a0_2) = some r := by first | (rw [hy500]; with_reducible exact H) | (have H2_ := (Option.bind_some _ _).symm.trans H; rw [hy500]; with_reducible exact H2_) | (have H2_ := (Option.bind_some _ _).symm.trans H; with_reducible exact H2_) | with_reducible exact H | (rw [hy500]; exact H) | exact H
        have Ny500 := Aside0.mk hy500
        clear hy500
        have H' := Aside0.mk H
        clear H
        rotate_left
        ·rw [if_neg c47] at H
         exact absurd H (by simp)
        ·rw [if_neg c46] at H
         exact absurd H (by simp)
        ·rw [if_neg c20] at H
         exact absurd H (by simp)
        ·rw [if_neg c19] at H
         exact absurd H (by simp)
        ·rw [if_neg c18] at H
         exact absurd H (by simp)
        ·rw [if_neg c17] at H
         exact absurd H (by simp)
        rw [if_neg c16] at H
        have c16b0 := decide_eq_false c16
        clear c16
        have H' := Aside0.mk H
        clear H
        rotate_left
        rotate_left 2
        ·go_wp2
         go_roundg k2
         case measure => have := HK1.out; have := HK2.out; omega
         case rel => exact ⟨(x5_2), (x6_2), (wrap64 (x7_1 + 1)), (by first | rfl | (simp; done) | (simp [*]; done)), H', ⟨by have := HK1.out; have := HK2.out; omega⟩, ⟨by (with_reducible repeat (first | apply Kd.R_alloc | apply Kd.R_drewN | apply Kd.R_drew)); exact HO_5.out⟩, ⟨by (with_reducible repeat (first | apply mapMo.MS_alloc | apply mapMo.MS_drewN | apply mapMo.MS_drew)); exact HO_6.out⟩, ⟨bkp BK462⟩, ⟨bbw1 HB GE462⟩⟩
        all_goals
         obtain ⟨p480, q480, ad480, e480, hx480_0, hx480_1, hx480_2, hx480_3, hx480_4, hx480_5⟩ := at_T48x HR1.out HB x27_2
         cases e480
         try go_wp2_with (first | ((with_reducible refine gd 9 rfl ?_); refine bx #[.int .i64 0, .int .i64 0, .int .i64 0, .int .i64 0, .int .i64 0, .int .i64 0] 48 ?_; intro gb481 hg w25 BK481 hb; replace HO_5 := asd (Kd.R_below (Kd.R_elderB (kr HO_5) gb481 (Nat.le_of_eq hg.symm)) hb); replace HO_6 := asd (mapMo.MS_below (by (with_reducible repeat (first | apply mapMo.MS_alloc | apply mapMo.MS_drewN | apply mapMo.MS_drew)); exact HO_6.out) hb); have GE481 := ngw1 hg HB GE462; replace HB := bS1 HB GE462 hb; have NB462_481 := nlt hg BK462; have NB481_462 := nsy (nlt hg BK462); replace BK462 := bB BK462 hb; clear hb hg; have hnb26 := NB481_462.out; have hnc26 := NB462_481.out; obtain ⟨hcz27_0, hcz27_1, hcz27_2, hcz27_3, hcz27_4, hcz27_5, hfz27_0, hfz27_1, hfz27_2, hfz27_3, hfz27_4, hfz27_5⟩ := bz6 BK481))
         obtain ⟨w28, h_w28⟩ : ∃ w_, ((((((w25.setCell ⟨gb481, 0, none⟩ (.int .i64 ((rd_T48 l1 x27_2).f0.f0))).setCell ⟨gb481, 1, none⟩ (.int .i64 ((rd_T48 l1 x27_2).f0.f1))).setCell ⟨gb481, 2, none⟩ (.int .i64 ((rd_T48 l1 x27_2).f0.f2))).setCell ⟨gb481, 3, none⟩ (.int .i64 ((rd_T48 l1 x27_2).f0.f3))).setCell ⟨gb481, 4, none⟩ (.int .i64 ((rd_T48 l1 x27_2).f1.f0))).setCell ⟨gb481, 5, none⟩ (.int .i64 ((rd_T48 l1 x27_2).f1.f1))) = w_ := ⟨_, rfl⟩
         replace HO_5 : Aside0 (Kd.R k48 48 w28 w.heap.size (fun k_ => k_ ≠ gb481) u5 x5_2) := by rw [← h_w28]; exact ⟨by (with_reducible repeat (first | apply Kd.R_alloc | apply Kd.R_drewN | apply Kd.R_drew)); exact Kd.R_mono (rw6 (Kd.R_mono HO_5.out (fun k_ hk => (⟨hk, hk.2⟩ : _ ∧ k_ ≠ gb481)))) (fun _ hk => hk.1.2)⟩
         replace HO_6 : Aside0 (mapMo.MS w28 gbM x6_2) := by rw [← h_w28]; exact ⟨by exact (by have q_ := mapMo.MS_ne HO_6.out BK481.out; repeat (first | (with_reducible first | exact HO_6.out | refine mapMo.MS_set ?_ q_ | apply mapMo.MS_alloc | apply mapMo.MS_drewN | apply mapMo.MS_drew) | exact HO_6.out))⟩
         replace BK462 : Aside0 (w28.heap[gb462]? = some (.cells #[.int .i64 a0_0, .int .i64 a0_1, .int .i64 a0_2] 29 (0, 0))) := by rw [← h_w28]; exact ⟨bq1 BK462 NB462_481⟩
         replace BK481 : Aside0 (w28.heap[gb481]? = some (.cells #[.int .i64 ((rd_T48 l1 x27_2).f0.f0), .int .i64 ((rd_T48 l1 x27_2).f0.f1), .int .i64 ((rd_T48 l1 x27_2).f0.f2), .int .i64 ((rd_T48 l1 x27_2).f0.f3), .int .i64 ((rd_T48 l1 x27_2).f1.f0), .int .i64 ((rd_T48 l1 x27_2).f1.f1)] 48 (0, 0))) := by rw [← h_w28]; exact ⟨bq0 BK481⟩
         replace HB : Aside0 (Below w.heap.size w w28) := by rw [← h_w28]; exact ⟨bbw2 HB GE462 GE481⟩
         (try rw [h_w28]); clear h_w28
         replace HO_5 := asd (Kd.R_drew HO_5.out)
         replace HO_6 := asd (mapMo.MS_drew HO_6.out)
         replace BK462 := asd (blk_drew BK462.out)
         replace BK481 := asd (blk_drew BK481.out)
         replace HB := asd (below_drew1 HB.out)
         obtain ⟨Ao30, co30, eo30⟩ := Kd.R_slice HO_5.out
         (first | subst eo30 | (injection eo30 with f1_ f2_ f3_; have f4_ := f1_.symm; have f5_ := f3_.symm; clear f1_ f2_ f3_; subst f4_; subst f5_))
         have p482 : 0 ≤ (x7_1 : Int) := od
         have q482 : x7_1 < (x5_2.length : Int) := od
         obtain ⟨ad482, e482, hx482_0, hx482_1, hx482_2, hx482_3, hx482_4, hx482_5⟩ := at_T48 (Kd.R_reads' HO_5.out).2.2 x7_1 p482 q482
         cases e482
         replace p482 := eq_true p482
         replace q482 := eq_true q482
         refine sh 10 (cb3 BK462 (cb6 BK481 (PA.c1 hx482_0 (PA.c1 hx482_1 (PA.c1 hx482_2 (PA.c1 hx482_3 (PA.c1 hx482_4 (PA.e1 hx482_5)))))))) (fun hHeld => ?_); refine with_tabW impl_closeGroup.tab9 impl_closeGroup.bits9 (fun HT_ HW_ => ?_)
         generalize w28.drew = w29 at HO_5 HO_6 BK462 BK481 HB hx482_0 hx482_1 hx482_2 hx482_3 hx482_4 hx482_5 hHeld ⊢
         refine pu 2 (some 33) (bs 10 4) HT_ ?_
         refine pu 3 (some 34) (bs 10 12) HT_ ?_
         refine pu 4 (some 35) (bs 10 28) HT_ ?_
         refine ta 0 (some 31) (bs 10 29) HT_ HW_ hHeld ?_
         refine ta 1 (some 32) (bT 10 5) HT_ HW_ hHeld ?_
         refine ta 5 (some 36) (bT 10 6) HT_ HW_ hHeld ?_
         refine join_ (σ := Nat) 1 (bT 10 9) (fun s_ => [(37, .agg #[.int .i64 t483, .int .i64 t484, .int .i64 t485, .int .i64 t486, .int .i64 t487, .int .i64 t488]), (38, .agg #[.int .i64 t489, .int .i64 t490, .int .i64 t491, .int .i64 t492, .int .i64 t493, .int .i64 t494]), (10, .pointer (some ⟨s_, 0, none⟩))]) (fun s_ w' => (w'.cell? ⟨gb462, 0, none⟩ = some (.int .i64 a0_0) ∧ w'.cell? ⟨gb462, 1, none⟩ = some (.int .i64 a0_1) ∧ w'.cell? ⟨gb462, 2, none⟩ = some (.int .i64 a0_2) ∧ w'.cell? ⟨gb481, 0, none⟩ = some (.int .i64 ((rd_T48 l1 x27_2).f0.f0)) ∧ w'.cell? ⟨gb481, 1, none⟩ = some (.int .i64 ((rd_T48 l1 x27_2).f0.f1)) ∧ w'.cell? ⟨gb481, 2, none⟩ = some (.int .i64 ((rd_T48 l1 x27_2).f0.f2)) ∧ w'.cell? ⟨gb481, 3, none⟩ = some (.int .i64 ((rd_T48 l1 x27_2).f0.f3)) ∧ w'.cell? ⟨gb481, 4, none⟩ = some (.int .i64 ((rd_T48 l1 x27_2).f1.f0)) ∧ w'.cell? ⟨gb481, 5, none⟩ = some (.int .i64 ((rd_T48 l1 x27_2).f1.f1)) ∧ w'.cell? (ad482.add ((x7_1).toNat * 6)) = some (.int .i64 ((rd_T48 x5_2 x7_1).f0.f0)) ∧ w'.cell? ⟨(ad482.add ((x7_1).toNat * 6)).block, (ad482.add ((x7_1).toNat * 6)).off + 1, none⟩ = some (.int .i64 ((rd_T48 x5_2 x7_1).f0.f1)) ∧ w'.cell? ⟨(ad482.add ((x7_1).toNat * 6)).block, (ad482.add ((x7_1).toNat * 6)).off + 2, none⟩ = some (.int .i64 ((rd_T48 x5_2 x7_1).f0.f2)) ∧ w'.cell? ⟨(ad482.add ((x7_1).toNat * 6)).block, (ad482.add ((x7_1).toNat * 6)).off + 3, none⟩ = some (.int .i64 ((rd_T48 x5_2 x7_1).f0.f3)) ∧ w'.cell? ⟨(ad482.add ((x7_1).toNat * 6)).block, (ad482.add ((x7_1).toNat * 6)).off + 4, none⟩ = some (.int .i64 ((rd_T48 x5_2 x7_1).f1.f0)) ∧ w'.cell? ⟨(ad482.add ((x7_1).toNat * 6)).block, (ad482.add ((x7_1).toNat * 6)).off + 5, none⟩ = some (.int .i64 ((rd_T48 x5_2 x7_1).f1.f1))) ∧ (Kd.R k48 48 w' w.heap.size (fun k_ => k_ ≠ gb481 ∧ k_ ≠ s_) (.slice (some ad482) x5_2.length co30) x5_2) ∧ (mapMo.MS w' gbM x6_2) ∧ (w'.heap[gb462]? = some (.cells #[.int .i64 a0_0, .int .i64 a0_1, .int .i64 a0_2] 29 (0, 0))) ∧ (w'.heap[gb481]? = some (.cells #[.int .i64 ((rd_T48 l1 x27_2).f0.f0), .int .i64 ((rd_T48 l1 x27_2).f0.f1), .int .i64 ((rd_T48 l1 x27_2).f0.f2), .int .i64 ((rd_T48 l1 x27_2).f0.f3), .int .i64 ((rd_T48 l1 x27_2).f1.f0), .int .i64 ((rd_T48 l1 x27_2).f1.f1)] 48 (0, 0))) ∧ (w'.heap[s_]? = some (.cells #[.int .i64 0, .int .i64 0, .int .i64 0, .int .i64 0, .int .i64 0, .int .i64 0] 48 (0, 0))) ∧ (w.heap.size ≤ s_) ∧ (w.heap.size ≤ s_) ∧ (gb462 ≠ s_) ∧ (s_ ≠ gb462) ∧ (gb481 ≠ s_) ∧ (s_ ≠ gb481) ∧ (Below w.heap.size w w')) ?_ ?_
         rotate_left
         ·intro hCont
          refine two_ (i := 6) (j := 8) (Ni := some 37) (Nj := some 10) (bT 10 7) (bs 10 319) rfl rfl rfl rfl (two_of HT_.out (by kernel_rfl)) (by decide) (by decide) (fun K hK => ?_) (fun K hK => ?_)
          ·skip
           refine gs Tryz.func73 #[.agg #[.int .i64 ((rd_T48 l1 x27_2).f0.f0), .int .i64 ((rd_T48 l1 x27_2).f0.f1), .int .i64 ((rd_T48 l1 x27_2).f0.f2), .int .i64 ((rd_T48 l1 x27_2).f0.f3), .int .i64 ((rd_T48 l1 x27_2).f1.f0), .int .i64 ((rd_T48 l1 x27_2).f1.f1)], .agg #[.int .i64 ((rd_T48 x5_2 x7_1).f0.f0), .int .i64 ((rd_T48 x5_2 x7_1).f0.f1), .int .i64 ((rd_T48 x5_2 x7_1).f0.f2), .int .i64 ((rd_T48 x5_2 x7_1).f0.f3), .int .i64 ((rd_T48 x5_2 x7_1).f1.f0), .int .i64 ((rd_T48 x5_2 x7_1).f1.f1)]] ?_
           with_reducible refine (impl_Motion_times.calls _ _ _ _ _ _ _ _ _ _ _ _ _ _ _ _ _ _ _ A21.out).mono ?_
           rintro e w31 ⟨rfl, hb⟩
           have HS9_ := hbc hb (hHeld.2.2.2.2.2.2.2.2.2.1)
           have HS10_ := hbc hb (hHeld.2.2.2.2.2.2.2.2.2.2.1)
           have HS11_ := hbc hb (hHeld.2.2.2.2.2.2.2.2.2.2.2.1)
           have HS12_ := hbc hb (hHeld.2.2.2.2.2.2.2.2.2.2.2.2.1)
           have HS13_ := hbc hb (hHeld.2.2.2.2.2.2.2.2.2.2.2.2.2.1)
           have HS14_ := hbc hb (hHeld.2.2.2.2.2.2.2.2.2.2.2.2.2.2)
           refine ⟨_, rfl, ?_⟩
           replace HO_5 := asd (Kd.R_below (kr HO_5) hb)
           replace HO_6 := asd (mapMo.MS_below (by (with_reducible repeat (first | apply mapMo.MS_alloc | apply mapMo.MS_drewN | apply mapMo.MS_drew)); exact HO_6.out) hb)
           replace BK462 := bB BK462 hb
           replace BK481 := bB BK481 hb
           replace HB := bS2 HB GE462 GE481 hb
           (try clear hb)
           (try clear hb2)
           (try clear hk)
           (try clear hi)
           refine hK.out _ _ ⟨bcl BK462 0, bcl BK462 1, bcl BK462 2, bcl BK481 0, bcl BK481 1, bcl BK481 2, bcl BK481 3, bcl BK481 4, bcl BK481 5, HS9_, HS10_, HS11_, HS12_, HS13_, HS14_⟩ (fun hHeld => ?_)
           clear hK K
           refine norm_ (a' := ?_) ?_ ?_
           rotate_left
           ·show Act.put _ (some 37) _ = _
            simp only [Act.put, sA, sB, sC, i64_w, i32_w]
            rfl
           refine two_ (i := 7) (j := 8) (Ni := some 38) (Nj := some 10) (bT 10 8) (bs 10 383) rfl rfl rfl rfl (two_of HT_.out (by kernel_rfl)) (by decide) (by decide) (fun K hK => ?_) (fun K hK => ?_)
           ·skip
            refine gs Tryz.func72 #[.agg #[.int .i64 a0_0, .int .i64 a0_1, .int .i64 a0_2], .agg #[.int .i64 t483, .int .i64 t484, .int .i64 t485, .int .i64 t486, .int .i64 t487, .int .i64 t488]] ?_
            with_reducible refine (impl_Lattice_reduceMotion.calls _ _ _ _ _ _ _ _ _ _ _ _ _ _ _ _ A22.out).mono ?_
            rintro e w32 ⟨rfl, hb⟩
            have HS9_ := hbc hb (hHeld.2.2.2.2.2.2.2.2.2.1)
            have HS10_ := hbc hb (hHeld.2.2.2.2.2.2.2.2.2.2.1)
            have HS11_ := hbc hb (hHeld.2.2.2.2.2.2.2.2.2.2.2.1)
            have HS12_ := hbc hb (hHeld.2.2.2.2.2.2.2.2.2.2.2.2.1)
            have HS13_ := hbc hb (hHeld.2.2.2.2.2.2.2.2.2.2.2.2.2.1)
            have HS14_ := hbc hb (hHeld.2.2.2.2.2.2.2.2.2.2.2.2.2.2)
            refine ⟨_, rfl, ?_⟩
            replace HO_5 := asd (Kd.R_below (kr HO_5) hb)
            replace HO_6 := asd (mapMo.MS_below (by (with_reducible repeat (first | apply mapMo.MS_alloc | apply mapMo.MS_drewN | apply mapMo.MS_drew)); exact HO_6.out) hb)
            replace BK462 := bB BK462 hb
            replace BK481 := bB BK481 hb
            replace HB := bS2 HB GE462 GE481 hb
            (try clear hb)
            (try clear hb2)
            (try clear hk)
            (try clear hi)
            refine hK.out _ _ ⟨bcl BK462 0, bcl BK462 1, bcl BK462 2, bcl BK481 0, bcl BK481 1, bcl BK481 2, bcl BK481 3, bcl BK481 4, bcl BK481 5, HS9_, HS10_, HS11_, HS12_, HS13_, HS14_⟩ (fun hHeld => ?_)
            clear hK K
            refine norm_ (a' := ?_) ?_ ?_
            rotate_left
            ·show Act.put _ (some 38) _ = _
             simp only [Act.put, sA, sB, sC, i64_w, i32_w]
             rfl
            refine ro 8 (some 10) (bT 10 9) HT_ (fun K hK => ?_)
            refine box_step ?hg (N := 10) ?hd (cs := #[.int .i64 0, .int .i64 0, .int .i64 0, .int .i64 0, .int .i64 0, .int .i64 0]) (t := 48) ?hr ?_; (case hd => rfl); (case hg => rfl); (case hr => first | (go_simp; done) | (go_simp; rfl))
            intro gb495 hg w33 hbox hb
            have HS9_ := hbc hb (hHeld.2.2.2.2.2.2.2.2.2.1)
            have HS10_ := hbc hb (hHeld.2.2.2.2.2.2.2.2.2.2.1)
            have HS11_ := hbc hb (hHeld.2.2.2.2.2.2.2.2.2.2.2.1)
            have HS12_ := hbc hb (hHeld.2.2.2.2.2.2.2.2.2.2.2.2.1)
            have HS13_ := hbc hb (hHeld.2.2.2.2.2.2.2.2.2.2.2.2.2.1)
            have HS14_ := hbc hb (hHeld.2.2.2.2.2.2.2.2.2.2.2.2.2.2)
            replace HO_5 := asd (Kd.R_below (Kd.R_elderB (kr HO_5) gb495 (Nat.le_of_eq hg.symm)) hb)
            replace HO_6 := asd (mapMo.MS_below (by (with_reducible repeat (first | apply mapMo.MS_alloc | apply mapMo.MS_drewN | apply mapMo.MS_drew)); exact HO_6.out) hb)
            have BK495 := asd (hbox)
            have GW495 := ngw2 hg HB GE462 GE481
            have GE495 := ngw2 hg HB GE462 GE481
            replace HB := bS2 HB GE462 GE481 hb
            have NB462_495 := nlt hg BK462
            have NB495_462 := nsy (nlt hg BK462)
            replace BK462 := bB BK462 hb
            have NB481_495 := nlt hg BK481
            have NB495_481 := nsy (nlt hg BK481)
            replace BK481 := bB BK481 hb
            clear hb hbox hg
            refine hK.out _ _ ⟨bcl BK462 0, bcl BK462 1, bcl BK462 2, bcl BK481 0, bcl BK481 1, bcl BK481 2, bcl BK481 3, bcl BK481 4, bcl BK481 5, HS9_, HS10_, HS11_, HS12_, HS13_, HS14_⟩ (fun hHeld => ?_)
            clear hK K
            refine norm_ (a' := ?_) ?_ ?_
            rotate_left
            ·show Act.put _ (some 10) _ = _
             simp only [Act.put, sA, sB, sC, i64_w, i32_w]
             rfl
            exact norm_ (by simp only [putAll, Act.put, sA, sB, sC]) (hCont (gb495) _ ⟨hHeld, (kr HO_5), (by (with_reducible repeat (first | apply mapMo.MS_alloc | apply mapMo.MS_drewN | apply mapMo.MS_drew)); exact HO_6.out), (bkp BK462), (bkp BK481), (bkp BK495), GW495.out, GE495.out, NB462_495.out, NB495_462.out, NB481_495.out, NB495_481.out, (bbw3 HB GE462 GE481 GE495)⟩)
           ·skip
            refine box_step ?hg (N := 10) ?hd (cs := #[.int .i64 0, .int .i64 0, .int .i64 0, .int .i64 0, .int .i64 0, .int .i64 0]) (t := 48) ?hr ?_; (case hd => rfl); (case hg => rfl); (case hr => first | (go_simp; done) | (go_simp; rfl))
            intro gb495 hg w32 hbox hb
            have HS9_ := hbc hb (hHeld.2.2.2.2.2.2.2.2.2.1)
            have HS10_ := hbc hb (hHeld.2.2.2.2.2.2.2.2.2.2.1)
            have HS11_ := hbc hb (hHeld.2.2.2.2.2.2.2.2.2.2.2.1)
            have HS12_ := hbc hb (hHeld.2.2.2.2.2.2.2.2.2.2.2.2.1)
            have HS13_ := hbc hb (hHeld.2.2.2.2.2.2.2.2.2.2.2.2.2.1)
            have HS14_ := hbc hb (hHeld.2.2.2.2.2.2.2.2.2.2.2.2.2.2)
            replace HO_5 := asd (Kd.R_below (Kd.R_elderB (kr HO_5) gb495 (Nat.le_of_eq hg.symm)) hb)
            replace HO_6 := asd (mapMo.MS_below (by (with_reducible repeat (first | apply mapMo.MS_alloc | apply mapMo.MS_drewN | apply mapMo.MS_drew)); exact HO_6.out) hb)
            have BK495 := asd (hbox)
            have GW495 := ngw2 hg HB GE462 GE481
            have GE495 := ngw2 hg HB GE462 GE481
            replace HB := bS2 HB GE462 GE481 hb
            have NB462_495 := nlt hg BK462
            have NB495_462 := nsy (nlt hg BK462)
            replace BK462 := bB BK462 hb
            have NB481_495 := nlt hg BK481
            have NB495_481 := nsy (nlt hg BK481)
            replace BK481 := bB BK481 hb
            clear hb hbox hg
            refine hK.out _ _ ⟨bcl BK462 0, bcl BK462 1, bcl BK462 2, bcl BK481 0, bcl BK481 1, bcl BK481 2, bcl BK481 3, bcl BK481 4, bcl BK481 5, HS9_, HS10_, HS11_, HS12_, HS13_, HS14_⟩ (fun hHeld => ?_)
            clear hK K
            refine norm_ (a' := ?_) ?_ ?_
            rotate_left
            ·show Act.put _ (some 10) _ = _
             simp only [Act.put, sA, sB, sC, i64_w, i32_w]
             rfl
            refine ro 7 (some 38) (bT 10 9) HT_ (fun K hK => ?_)
            refine gs Tryz.func72 #[.agg #[.int .i64 a0_0, .int .i64 a0_1, .int .i64 a0_2], .agg #[.int .i64 t483, .int .i64 t484, .int .i64 t485, .int .i64 t486, .int .i64 t487, .int .i64 t488]] ?_
            with_reducible refine (impl_Lattice_reduceMotion.calls _ _ _ _ _ _ _ _ _ _ _ _ _ _ _ _ A22.out).mono ?_
            rintro e w33 ⟨rfl, hb⟩
            have HS9_ := hbc hb (hHeld.2.2.2.2.2.2.2.2.2.1)
            have HS10_ := hbc hb (hHeld.2.2.2.2.2.2.2.2.2.2.1)
            have HS11_ := hbc hb (hHeld.2.2.2.2.2.2.2.2.2.2.2.1)
            have HS12_ := hbc hb (hHeld.2.2.2.2.2.2.2.2.2.2.2.2.1)
            have HS13_ := hbc hb (hHeld.2.2.2.2.2.2.2.2.2.2.2.2.2.1)
            have HS14_ := hbc hb (hHeld.2.2.2.2.2.2.2.2.2.2.2.2.2.2)
            refine ⟨_, rfl, ?_⟩
            replace HO_5 := asd (Kd.R_below (kr HO_5) hb)
            replace HO_6 := asd (mapMo.MS_below (by (with_reducible repeat (first | apply mapMo.MS_alloc | apply mapMo.MS_drewN | apply mapMo.MS_drew)); exact HO_6.out) hb)
            replace BK462 := bB BK462 hb
            replace BK481 := bB BK481 hb
            replace BK495 := bB BK495 hb
            replace HB := bS3 HB GE462 GE481 GE495 hb
            (try clear hb)
            (try clear hb2)
            (try clear hk)
            (try clear hi)
            refine hK.out _ _ ⟨bcl BK462 0, bcl BK462 1, bcl BK462 2, bcl BK481 0, bcl BK481 1, bcl BK481 2, bcl BK481 3, bcl BK481 4, bcl BK481 5, HS9_, HS10_, HS11_, HS12_, HS13_, HS14_⟩ (fun hHeld => ?_)
            clear hK K
            refine norm_ (a' := ?_) ?_ ?_
            rotate_left
            ·show Act.put _ (some 38) _ = _
             simp only [Act.put, sA, sB, sC, i64_w, i32_w]
             rfl
            exact norm_ (by simp only [putAll, Act.put, sA, sB, sC]) (hCont (gb495) _ ⟨hHeld, (kr HO_5), (by (with_reducible repeat (first | apply mapMo.MS_alloc | apply mapMo.MS_drewN | apply mapMo.MS_drew)); exact HO_6.out), (bkp BK462), (bkp BK481), (bkp BK495), GW495.out, GE495.out, NB462_495.out, NB495_462.out, NB481_495.out, NB495_481.out, (bbw3 HB GE462 GE481 GE495)⟩)
          ·skip
           refine box_step ?hg (N := 10) ?hd (cs := #[.int .i64 0, .int .i64 0, .int .i64 0, .int .i64 0, .int .i64 0, .int .i64 0]) (t := 48) ?hr ?_; (case hd => rfl); (case hg => rfl); (case hr => first | (go_simp; done) | (go_simp; rfl))
           intro gb495 hg w31 hbox hb
           have HS9_ := hbc hb (hHeld.2.2.2.2.2.2.2.2.2.1)
           have HS10_ := hbc hb (hHeld.2.2.2.2.2.2.2.2.2.2.1)
           have HS11_ := hbc hb (hHeld.2.2.2.2.2.2.2.2.2.2.2.1)
           have HS12_ := hbc hb (hHeld.2.2.2.2.2.2.2.2.2.2.2.2.1)
           have HS13_ := hbc hb (hHeld.2.2.2.2.2.2.2.2.2.2.2.2.2.1)
           have HS14_ := hbc hb (hHeld.2.2.2.2.2.2.2.2.2.2.2.2.2.2)
           replace HO_5 := asd (Kd.R_below (Kd.R_elderB (kr HO_5) gb495 (Nat.le_of_eq hg.symm)) hb)
           replace HO_6 := asd (mapMo.MS_below (by (with_reducible repeat (first | apply mapMo.MS_alloc | apply mapMo.MS_drewN | apply mapMo.MS_drew)); exact HO_6.out) hb)
           have BK495 := asd (hbox)
           have GW495 := ngw2 hg HB GE462 GE481
           have GE495 := ngw2 hg HB GE462 GE481
           replace HB := bS2 HB GE462 GE481 hb
           have NB462_495 := nlt hg BK462
           have NB495_462 := nsy (nlt hg BK462)
           replace BK462 := bB BK462 hb
           have NB481_495 := nlt hg BK481
           have NB495_481 := nsy (nlt hg BK481)
           replace BK481 := bB BK481 hb
           clear hb hbox hg
           refine hK.out _ _ ⟨bcl BK462 0, bcl BK462 1, bcl BK462 2, bcl BK481 0, bcl BK481 1, bcl BK481 2, bcl BK481 3, bcl BK481 4, bcl BK481 5, HS9_, HS10_, HS11_, HS12_, HS13_, HS14_⟩ (fun hHeld => ?_)
           clear hK K
           refine norm_ (a' := ?_) ?_ ?_
           rotate_left
           ·show Act.put _ (some 10) _ = _
            simp only [Act.put, sA, sB, sC, i64_w, i32_w]
            rfl
           refine ro 6 (some 37) (bs 10 383) HT_ (fun K hK => ?_)
           refine gs Tryz.func73 #[.agg #[.int .i64 ((rd_T48 l1 x27_2).f0.f0), .int .i64 ((rd_T48 l1 x27_2).f0.f1), .int .i64 ((rd_T48 l1 x27_2).f0.f2), .int .i64 ((rd_T48 l1 x27_2).f0.f3), .int .i64 ((rd_T48 l1 x27_2).f1.f0), .int .i64 ((rd_T48 l1 x27_2).f1.f1)], .agg #[.int .i64 ((rd_T48 x5_2 x7_1).f0.f0), .int .i64 ((rd_T48 x5_2 x7_1).f0.f1), .int .i64 ((rd_T48 x5_2 x7_1).f0.f2), .int .i64 ((rd_T48 x5_2 x7_1).f0.f3), .int .i64 ((rd_T48 x5_2 x7_1).f1.f0), .int .i64 ((rd_T48 x5_2 x7_1).f1.f1)]] ?_
           with_reducible refine (impl_Motion_times.calls _ _ _ _ _ _ _ _ _ _ _ _ _ _ _ _ _ _ _ A21.out).mono ?_
           rintro e w32 ⟨rfl, hb⟩
           have HS9_ := hbc hb (hHeld.2.2.2.2.2.2.2.2.2.1)
           have HS10_ := hbc hb (hHeld.2.2.2.2.2.2.2.2.2.2.1)
           have HS11_ := hbc hb (hHeld.2.2.2.2.2.2.2.2.2.2.2.1)
           have HS12_ := hbc hb (hHeld.2.2.2.2.2.2.2.2.2.2.2.2.1)
           have HS13_ := hbc hb (hHeld.2.2.2.2.2.2.2.2.2.2.2.2.2.1)
           have HS14_ := hbc hb (hHeld.2.2.2.2.2.2.2.2.2.2.2.2.2.2)
           refine ⟨_, rfl, ?_⟩
           replace HO_5 := asd (Kd.R_below (kr HO_5) hb)
           replace HO_6 := asd (mapMo.MS_below (by (with_reducible repeat (first | apply mapMo.MS_alloc | apply mapMo.MS_drewN | apply mapMo.MS_drew)); exact HO_6.out) hb)
           replace BK462 := bB BK462 hb
           replace BK481 := bB BK481 hb
           replace BK495 := bB BK495 hb
           replace HB := bS3 HB GE462 GE481 GE495 hb
           (try clear hb)
           (try clear hb2)
           (try clear hk)
           (try clear hi)
           refine hK.out _ _ ⟨bcl BK462 0, bcl BK462 1, bcl BK462 2, bcl BK481 0, bcl BK481 1, bcl BK481 2, bcl BK481 3, bcl BK481 4, bcl BK481 5, HS9_, HS10_, HS11_, HS12_, HS13_, HS14_⟩ (fun hHeld => ?_)
           clear hK K
           refine norm_ (a' := ?_) ?_ ?_
           rotate_left
           ·show Act.put _ (some 37) _ = _
            simp only [Act.put, sA, sB, sC, i64_w, i32_w]
            rfl
           refine ro 7 (some 38) (bT 10 9) HT_ (fun K hK => ?_)
           refine gs Tryz.func72 #[.agg #[.int .i64 a0_0, .int .i64 a0_1, .int .i64 a0_2], .agg #[.int .i64 t483, .int .i64 t484, .int .i64 t485, .int .i64 t486, .int .i64 t487, .int .i64 t488]] ?_
           with_reducible refine (impl_Lattice_reduceMotion.calls _ _ _ _ _ _ _ _ _ _ _ _ _ _ _ _ A22.out).mono ?_
           rintro e w33 ⟨rfl, hb⟩
           have HS9_ := hbc hb (hHeld.2.2.2.2.2.2.2.2.2.1)
           have HS10_ := hbc hb (hHeld.2.2.2.2.2.2.2.2.2.2.1)
           have HS11_ := hbc hb (hHeld.2.2.2.2.2.2.2.2.2.2.2.1)
           have HS12_ := hbc hb (hHeld.2.2.2.2.2.2.2.2.2.2.2.2.1)
           have HS13_ := hbc hb (hHeld.2.2.2.2.2.2.2.2.2.2.2.2.2.1)
           have HS14_ := hbc hb (hHeld.2.2.2.2.2.2.2.2.2.2.2.2.2.2)
           refine ⟨_, rfl, ?_⟩
           replace HO_5 := asd (Kd.R_below (kr HO_5) hb)
           replace HO_6 := asd (mapMo.MS_below (by (with_reducible repeat (first | apply mapMo.MS_alloc | apply mapMo.MS_drewN | apply mapMo.MS_drew)); exact HO_6.out) hb)
           replace BK462 := bB BK462 hb
           replace BK481 := bB BK481 hb
           replace BK495 := bB BK495 hb
           replace HB := bS3 HB GE462 GE481 GE495 hb
           (try clear hb)
           (try clear hb2)
           (try clear hk)
           (try clear hi)
           refine hK.out _ _ ⟨bcl BK462 0, bcl BK462 1, bcl BK462 2, bcl BK481 0, bcl BK481 1, bcl BK481 2, bcl BK481 3, bcl BK481 4, bcl BK481 5, HS9_, HS10_, HS11_, HS12_, HS13_, HS14_⟩ (fun hHeld => ?_)
           clear hK K
           refine norm_ (a' := ?_) ?_ ?_
           rotate_left
           ·show Act.put _ (some 38) _ = _
            simp only [Act.put, sA, sB, sC, i64_w, i32_w]
            rfl
           exact norm_ (by simp only [putAll, Act.put, sA, sB, sC]) (hCont (gb495) _ ⟨hHeld, (kr HO_5), (by (with_reducible repeat (first | apply mapMo.MS_alloc | apply mapMo.MS_drewN | apply mapMo.MS_drew)); exact HO_6.out), (bkp BK462), (bkp BK481), (bkp BK495), GW495.out, GE495.out, NB462_495.out, NB495_462.out, NB481_495.out, NB495_481.out, (bbw3 HB GE462 GE481 GE495)⟩)
         rintro gb495 w34 ⟨hS_, h0_, h1_, h2_, h3_, h4_, h5_, h6_, h7_, h8_, h9_, h10_, h11_⟩
         have n0_ : Aside0 (Kd.R k48 48 w34 w.heap.size (fun k_ => k_ ≠ gb481 ∧ k_ ≠ gb495) (.slice (some ad482) x5_2.length co30) x5_2) := ⟨h0_⟩
         have n1_ : Aside0 (mapMo.MS w34 gbM x6_2) := ⟨h1_⟩
         have n2_ : Aside0 (w34.heap[gb462]? = some (.cells #[.int .i64 a0_0, .int .i64 a0_1, .int .i64 a0_2] 29 (0, 0))) := ⟨h2_⟩
         have n3_ : Aside0 (w34.heap[gb481]? = some (.cells #[.int .i64 ((rd_T48 l1 x27_2).f0.f0), .int .i64 ((rd_T48 l1 x27_2).f0.f1), .int .i64 ((rd_T48 l1 x27_2).f0.f2), .int .i64 ((rd_T48 l1 x27_2).f0.f3), .int .i64 ((rd_T48 l1 x27_2).f1.f0), .int .i64 ((rd_T48 l1 x27_2).f1.f1)] 48 (0, 0))) := ⟨h3_⟩
         have n4_ : Aside0 (w34.heap[gb495]? = some (.cells #[.int .i64 0, .int .i64 0, .int .i64 0, .int .i64 0, .int .i64 0, .int .i64 0] 48 (0, 0))) := ⟨h4_⟩
         have n5_ : Aside0 (w.heap.size ≤ gb495) := ⟨h5_⟩
         have n6_ : Aside0 (w.heap.size ≤ gb495) := ⟨h6_⟩
         have n7_ : Aside0 (gb462 ≠ gb495) := ⟨h7_⟩
         have n8_ : Aside0 (gb495 ≠ gb462) := ⟨h8_⟩
         have n9_ : Aside0 (gb481 ≠ gb495) := ⟨h9_⟩
         have n10_ : Aside0 (gb495 ≠ gb481) := ⟨h10_⟩
         have n11_ : Aside0 (Below w.heap.size w w34) := ⟨h11_⟩
         clear HO_5
         clear HO_6
         clear BK462
         clear BK481
         clear HB
         clear h0_ h1_ h2_ h3_ h4_ h5_ h6_ h7_ h8_ h9_ h10_ h11_
         have HO_5 := n0_
         have HO_6 := n1_
         have BK462 := n2_
         have BK481 := n3_
         have BK495 := n4_
         have GW495 := n5_
         have GE495 := n6_
         have NB462_495 := n7_
         have NB495_462 := n8_
         have NB481_495 := n9_
         have NB495_481 := n10_
         have HB := n11_
         clear n0_ n1_ n2_ n3_ n4_ n5_ n6_ n7_ n8_ n9_ n10_ n11_
         have hHeld : w34.cell? ⟨gb462, 0, none⟩ = some (.int .i64 a0_0) ∧ w34.cell? ⟨gb462, 1, none⟩ = some (.int .i64 a0_1) ∧ w34.cell? ⟨gb462, 2, none⟩ = some (.int .i64 a0_2) ∧ w34.cell? ⟨gb481, 0, none⟩ = some (.int .i64 ((rd_T48 l1 x27_2).f0.f0)) ∧ w34.cell? ⟨gb481, 1, none⟩ = some (.int .i64 ((rd_T48 l1 x27_2).f0.f1)) ∧ w34.cell? ⟨gb481, 2, none⟩ = some (.int .i64 ((rd_T48 l1 x27_2).f0.f2)) ∧ w34.cell? ⟨gb481, 3, none⟩ = some (.int .i64 ((rd_T48 l1 x27_2).f0.f3)) ∧ w34.cell? ⟨gb481, 4, none⟩ = some (.int .i64 ((rd_T48 l1 x27_2).f1.f0)) ∧ w34.cell? ⟨gb481, 5, none⟩ = some (.int .i64 ((rd_T48 l1 x27_2).f1.f1)) ∧ w34.cell? (ad482.add ((x7_1).toNat * 6)) = some (.int .i64 ((rd_T48 x5_2 x7_1).f0.f0)) ∧ w34.cell? ⟨(ad482.add ((x7_1).toNat * 6)).block, (ad482.add ((x7_1).toNat * 6)).off + 1, none⟩ = some (.int .i64 ((rd_T48 x5_2 x7_1).f0.f1)) ∧ w34.cell? ⟨(ad482.add ((x7_1).toNat * 6)).block, (ad482.add ((x7_1).toNat * 6)).off + 2, none⟩ = some (.int .i64 ((rd_T48 x5_2 x7_1).f0.f2)) ∧ w34.cell? ⟨(ad482.add ((x7_1).toNat * 6)).block, (ad482.add ((x7_1).toNat * 6)).off + 3, none⟩ = some (.int .i64 ((rd_T48 x5_2 x7_1).f0.f3)) ∧ w34.cell? ⟨(ad482.add ((x7_1).toNat * 6)).block, (ad482.add ((x7_1).toNat * 6)).off + 4, none⟩ = some (.int .i64 ((rd_T48 x5_2 x7_1).f1.f0)) ∧ w34.cell? ⟨(ad482.add ((x7_1).toNat * 6)).block, (ad482.add ((x7_1).toNat * 6)).off + 5, none⟩ = some (.int .i64 ((rd_T48 x5_2 x7_1).f1.f1)) := hS_
         refine norm_ (a' := ?_) ?_ ?_
         rotate_left
         ·simp only [putAll, Act.put, sA, sB, sC]
          rfl
         refine ro 9 (none) (bT 10 10) HT_ (fun K hK => ?_)
         have hs35 : w34.cell? ⟨gb495, 0, none⟩ = some (.int .i64 0) := bcl BK495 0
         have hfs35 := blk_frozen BK495.out 0
         have hns35_0 := NB462_495.out
         have hns35_1 := NB481_495.out
         have hms35_0 := NB495_462.out
         have hms35_1 := NB495_481.out
         have hs36 : w34.cell? ⟨gb495, 1, none⟩ = some (.int .i64 0) := bcl BK495 1
         have hfs36 := blk_frozen BK495.out 1
         have hns36_0 := NB462_495.out
         have hns36_1 := NB481_495.out
         have hms36_0 := NB495_462.out
         have hms36_1 := NB495_481.out
         have hs37 : w34.cell? ⟨gb495, 2, none⟩ = some (.int .i64 0) := bcl BK495 2
         have hfs37 := blk_frozen BK495.out 2
         have hns37_0 := NB462_495.out
         have hns37_1 := NB481_495.out
         have hms37_0 := NB495_462.out
         have hms37_1 := NB495_481.out
         have hs38 : w34.cell? ⟨gb495, 3, none⟩ = some (.int .i64 0) := bcl BK495 3
         have hfs38 := blk_frozen BK495.out 3
         have hns38_0 := NB462_495.out
         have hns38_1 := NB481_495.out
         have hms38_0 := NB495_462.out
         have hms38_1 := NB495_481.out
         have hs39 : w34.cell? ⟨gb495, 4, none⟩ = some (.int .i64 0) := bcl BK495 4
         have hfs39 := blk_frozen BK495.out 4
         have hns39_0 := NB462_495.out
         have hns39_1 := NB481_495.out
         have hms39_0 := NB495_462.out
         have hms39_1 := NB495_481.out
         have hs40 : w34.cell? ⟨gb495, 5, none⟩ = some (.int .i64 0) := bcl BK495 5
         have hfs40 := blk_frozen BK495.out 5
         have hns40_0 := NB462_495.out
         have hns40_1 := NB481_495.out
         have hms40_0 := NB495_462.out
         have hms40_1 := NB495_481.out
         refine skip_ (w1 := ?_) (by rfl) rfl ?_ ?_
         rotate_left
         ·go_simp
          rfl
         refine hK.out _ _ ⟨(cf6 NB462_495 (hHeld.1)), (cf6 NB462_495 (hHeld.2.1)), (cf6 NB462_495 (hHeld.2.2.1)), (cf6 NB481_495 (hHeld.2.2.2.1)), (cf6 NB481_495 (hHeld.2.2.2.2.1)), (cf6 NB481_495 (hHeld.2.2.2.2.2.1)), (cf6 NB481_495 (hHeld.2.2.2.2.2.2.1)), (cf6 NB481_495 (hHeld.2.2.2.2.2.2.2.1)), (cf6 NB481_495 (hHeld.2.2.2.2.2.2.2.2.1)), (fx6 (Kd.own_blk (Kd.R_away HO_5.out (fun _ hk => hk.2))) (hHeld.2.2.2.2.2.2.2.2.2.1)), (fx6 (Kd.own_blk (Kd.R_away HO_5.out (fun _ hk => hk.2))) (hHeld.2.2.2.2.2.2.2.2.2.2.1)), (fx6 (Kd.own_blk (Kd.R_away HO_5.out (fun _ hk => hk.2))) (hHeld.2.2.2.2.2.2.2.2.2.2.2.1)), (fx6 (Kd.own_blk (Kd.R_away HO_5.out (fun _ hk => hk.2))) (hHeld.2.2.2.2.2.2.2.2.2.2.2.2.1)), (fx6 (Kd.own_blk (Kd.R_away HO_5.out (fun _ hk => hk.2))) (hHeld.2.2.2.2.2.2.2.2.2.2.2.2.2.1)), (fx6 (Kd.own_blk (Kd.R_away HO_5.out (fun _ hk => hk.2))) (hHeld.2.2.2.2.2.2.2.2.2.2.2.2.2.2))⟩ (fun hHeld => ?_)
         clear hK K
         refine done_ (done_of HT_.out (by kernel_rfl)) ?_
         have hnb41 := NB495_462.out
         have hnc41 := NB462_495.out
         have hnb42 := NB495_481.out
         have hnc42 := NB481_495.out
         obtain ⟨hcz43_0, hcz43_1, hcz43_2, hcz43_3, hcz43_4, hcz43_5, hfz43_0, hfz43_1, hfz43_2, hfz43_3, hfz43_4, hfz43_5⟩ := bz6 BK495
        focus try go_wp2_with (first | (at_lookup; refine mapMo.get_call A23.out rfl _ _ rfl rfl (by have qBK495_ := mapMo.MS_ne HO_6.out BK495.out; repeat (first | (with_reducible first | exact HO_6.out | refine mapMo.MS_set ?_ qBK495_ | apply mapMo.MS_alloc | apply mapMo.MS_drewN | apply mapMo.MS_drew) | exact HO_6.out)) rfl ?_; intro w45 hb; have hms_ : mapMo.MS w45 gbM x6_2 := mapMo.MS_below (by exact (by have q_ := mapMo.MS_ne HO_6.out BK495.out; repeat (first | (with_reducible first | exact HO_6.out | refine mapMo.MS_set ?_ q_ | apply mapMo.MS_alloc | apply mapMo.MS_drewN | apply mapMo.MS_drew) | exact HO_6.out))) hb; replace HO_5 := asd (Kd.R_below (by (with_reducible repeat (first | apply Kd.R_alloc | apply Kd.R_drewN | apply Kd.R_drew)); exact (Kd.R_mono (rw6 (Kd.R_mono HO_5.out (fun k_ hk => (⟨hk, hk.2⟩ : _ ∧ k_ ≠ gb495)))) (fun _ h_ => h_.1))) hb); replace HO_6 := asd (hms_); replace BK462 := asd (blk_below (g := gb462) (o := .cells #[.int .i64 a0_0, .int .i64 a0_1, .int .i64 a0_2] 29 (0, 0)) (bq1 BK462 NB462_495) hb); replace BK481 := asd (blk_below (g := gb481) (o := .cells #[.int .i64 ((rd_T48 l1 x27_2).f0.f0), .int .i64 ((rd_T48 l1 x27_2).f0.f1), .int .i64 ((rd_T48 l1 x27_2).f0.f2), .int .i64 ((rd_T48 l1 x27_2).f0.f3), .int .i64 ((rd_T48 l1 x27_2).f1.f0), .int .i64 ((rd_T48 l1 x27_2).f1.f1)] 48 (0, 0)) (bq1 BK481 NB481_495) hb); replace BK495 := asd (blk_below (g := gb495) (o := .cells #[.int .i64 t489, .int .i64 t490, .int .i64 t491, .int .i64 t492, .int .i64 t493, .int .i64 t494] 48 (0, 0)) (bq0 BK495) hb); replace HB := bS3 HB GE462 GE481 GE495 hb; (try clear hms_); (try clear hb); (try clear hb2); (try clear hk); (try clear hi)))
        rotate_left
        focus try go_wp2_with (first | (at_lookup; refine mapMo.get_call A23.out rfl _ _ rfl rfl (by have qBK495_ := mapMo.MS_ne HO_6.out BK495.out; repeat (first | (with_reducible first | exact HO_6.out | refine mapMo.MS_set ?_ qBK495_ | apply mapMo.MS_alloc | apply mapMo.MS_drewN | apply mapMo.MS_drew) | exact HO_6.out)) rfl ?_; intro w68 hb; have hms_ : mapMo.MS w68 gbM x6_2 := mapMo.MS_below (by exact (by have q_ := mapMo.MS_ne HO_6.out BK495.out; repeat (first | (with_reducible first | exact HO_6.out | refine mapMo.MS_set ?_ q_ | apply mapMo.MS_alloc | apply mapMo.MS_drewN | apply mapMo.MS_drew) | exact HO_6.out))) hb; replace HO_5 := asd (Kd.R_below (by (with_reducible repeat (first | apply Kd.R_alloc | apply Kd.R_drewN | apply Kd.R_drew)); exact (Kd.R_mono (rw6 (Kd.R_mono HO_5.out (fun k_ hk => (⟨hk, hk.2⟩ : _ ∧ k_ ≠ gb495)))) (fun _ h_ => h_.1))) hb); replace HO_6 := asd (hms_); replace BK462 := asd (blk_below (g := gb462) (o := .cells #[.int .i64 a0_0, .int .i64 a0_1, .int .i64 a0_2] 29 (0, 0)) (bq1 BK462 NB462_495) hb); replace BK481 := asd (blk_below (g := gb481) (o := .cells #[.int .i64 ((rd_T48 l1 x27_2).f0.f0), .int .i64 ((rd_T48 l1 x27_2).f0.f1), .int .i64 ((rd_T48 l1 x27_2).f0.f2), .int .i64 ((rd_T48 l1 x27_2).f0.f3), .int .i64 ((rd_T48 l1 x27_2).f1.f0), .int .i64 ((rd_T48 l1 x27_2).f1.f1)] 48 (0, 0)) (bq1 BK481 NB481_495) hb); replace BK495 := asd (blk_below (g := gb495) (o := .cells #[.int .i64 t489, .int .i64 t490, .int .i64 t491, .int .i64 t492, .int .i64 t493, .int .i64 t494] 48 (0, 0)) (bq0 BK495) hb); replace HB := bS3 HB GE462 GE481 GE495 hb; (try clear hms_); (try clear hb); (try clear hb2); (try clear hk); (try clear hi); obtain ⟨hcz69_0, hcz69_1, hcz69_2, hcz69_3, hcz69_4, hcz69_5, hfz69_0, hfz69_1, hfz69_2, hfz69_3, hfz69_4, hfz69_5⟩ := bz6 BK495) | (at_mapUpdate; refine mapMo.put_event rfl _ _ _ rfl rfl (by (with_reducible repeat (first | apply mapMo.MS_alloc | apply mapMo.MS_drewN | apply mapMo.MS_drew)); exact HO_6.out) (⟨(⟨t489, t490, t491, t492⟩ : S46), (⟨t493, t494⟩ : S38)⟩ : S48) rfl rfl LMc46.out.2 LMc46.out.1 ?_; intro w70 ho hg; rw [← Ny497.out] at ho; have hb : Below w.heap.size w w70 := mapMo.below_put (bbw3 HB GE462 GE481 GE495) GEM.out hg; have n0_ := asd (mapMo.R_map (kr HO_5) (by (with_reducible repeat (first | apply mapMo.MS_alloc | apply mapMo.MS_drewN | apply mapMo.MS_drew)); exact HO_6.out) hg); have n1_ := asd (mapMo.blk_put (g := gb462) (cs := #[.int .i64 a0_0, .int .i64 a0_1, .int .i64 a0_2]) (t := 29) (bkp BK462) (by (with_reducible repeat (first | apply mapMo.MS_alloc | apply mapMo.MS_drewN | apply mapMo.MS_drew)); exact HO_6.out) hg); have n2_ := asd (mapMo.blk_put (g := gb481) (cs := #[.int .i64 ((rd_T48 l1 x27_2).f0.f0), .int .i64 ((rd_T48 l1 x27_2).f0.f1), .int .i64 ((rd_T48 l1 x27_2).f0.f2), .int .i64 ((rd_T48 l1 x27_2).f0.f3), .int .i64 ((rd_T48 l1 x27_2).f1.f0), .int .i64 ((rd_T48 l1 x27_2).f1.f1)]) (t := 48) (bkp BK481) (by (with_reducible repeat (first | apply mapMo.MS_alloc | apply mapMo.MS_drewN | apply mapMo.MS_drew)); exact HO_6.out) hg); have n3_ := asd (mapMo.blk_put (g := gb495) (cs := #[.int .i64 t489, .int .i64 t490, .int .i64 t491, .int .i64 t492, .int .i64 t493, .int .i64 t494]) (t := 48) (bkp BK495) (by (with_reducible repeat (first | apply mapMo.MS_alloc | apply mapMo.MS_drewN | apply mapMo.MS_drew)); exact HO_6.out) hg); have n4_ := asd (hb); have n5_ := asd (ho); clear HO_5; clear BK462; clear BK481; clear BK495; clear HB; clear HO_6; have HO_5 := n0_; have BK462 := n1_; have BK481 := n2_; have BK495 := n3_; have HB := n4_; have HO499 := n5_; clear n0_ n1_ n2_ n3_ n4_ n5_; clear ho hb hg; obtain ⟨hcz71_0, hcz71_1, hcz71_2, hcz71_3, hcz71_4, hcz71_5, hfz71_0, hfz71_1, hfz71_2, hfz71_3, hfz71_4, hfz71_5⟩ := bz6 BK495) | ((with_reducible refine gate_builtin (b := .append) (xs := #[.tmp 45, .tmp 47]) rfl ?_); at_builtin; refine Kd.R_append k48 (w0 := w) w.heap.size rfl (.tmp 45) (.tmp 47) 26 48 (.agg #[(.int .i64 0), (.int .i64 0), (.int .i64 0), (.int .i64 0), (.int .i64 0), (.int .i64 0)]) 48 rfl Tryz.underlying26 info48 rfl (by decide) (by omega) (.slice (some ad482) x5_2.length co30) x5_2 (⟨(⟨t489, t490, t491, t492⟩ : S46), (⟨t493, t494⟩ : S38)⟩ : S48) [.int .i64 t489, .int .i64 t490, .int .i64 t491, .int .i64 t492, .int .i64 t493, .int .i64 t494] (fun k_ => k_ ≠ gb481 ∧ k_ ≠ gb495) (fun _ => False) rfl rfl ?aP (fun _ hk => hk.elim) ?aF ?aO ?aB ?aS ?aL ?_; (case aP => exact k48_mkM _ _ _ (⟨(⟨t489, t490, t491, t492⟩ : S46), (⟨t493, t494⟩ : S38)⟩ : S48)); (case aB => exact (bbw3 HB GE462 GE481 GE495)); (case aF => exact (fun k_ hk => ⟨Kd.freshB (g := gb481) (o := .cells #[.int .i64 ((rd_T48 l1 x27_2).f0.f0), .int .i64 ((rd_T48 l1 x27_2).f0.f1), .int .i64 ((rd_T48 l1 x27_2).f0.f2), .int .i64 ((rd_T48 l1 x27_2).f0.f3), .int .i64 ((rd_T48 l1 x27_2).f1.f0), .int .i64 ((rd_T48 l1 x27_2).f1.f1)] 48 (0, 0)) (bkp BK481) k_ hk, Kd.freshB (g := gb495) (o := .cells #[.int .i64 t489, .int .i64 t490, .int .i64 t491, .int .i64 t492, .int .i64 t493, .int .i64 t494] 48 (0, 0)) (bkp BK495) k_ hk⟩)); (case aO => exact (kr HO_5)); (case aS => exact (bsz3 HB GE462 GE481 GE495)); (case aL => have := LMc47.out; omega); intro v501 w72 ho hb hg hat; rw [← Ny500.out] at ho; have n0_ := asd (blk_grown (g := gb462) (o := .cells #[.int .i64 a0_0, .int .i64 a0_1, .int .i64 a0_2] 29 (0, 0)) (bkp BK462) hg (Kd.R_ne HO_5.out BK462.out (by decide))); have n1_ := asd (blk_grown (g := gb481) (o := .cells #[.int .i64 ((rd_T48 l1 x27_2).f0.f0), .int .i64 ((rd_T48 l1 x27_2).f0.f1), .int .i64 ((rd_T48 l1 x27_2).f0.f2), .int .i64 ((rd_T48 l1 x27_2).f0.f3), .int .i64 ((rd_T48 l1 x27_2).f1.f0), .int .i64 ((rd_T48 l1 x27_2).f1.f1)] 48 (0, 0)) (bkp BK481) hg (Kd.R_away HO_5.out (fun _ hk => hk.1))); have n2_ := asd (blk_grown (g := gb495) (o := .cells #[.int .i64 t489, .int .i64 t490, .int .i64 t491, .int .i64 t492, .int .i64 t493, .int .i64 t494] 48 (0, 0)) (bkp BK495) hg (Kd.R_away HO_5.out (fun _ hk => hk.2))); have n3_ := asd (mapMo.MS_over (by (with_reducible repeat (first | apply mapMo.MS_alloc | apply mapMo.MS_drewN | apply mapMo.MS_drew)); exact HO499.out) (Kd.R_typed (kr HO_5)) hg); have n4_ := asd (hb); have n5_ := asd (ho); clear BK462; clear BK481; clear BK495; clear HO499; clear HB; clear HO_5; have BK462 := n0_; have BK481 := n1_; have BK495 := n2_; have HO499 := n3_; have HB := n4_; have HO502 := n5_; clear n0_ n1_ n2_ n3_ n4_ n5_; clear ho hb hg hat))
        rotate_left
        all_goals
         go_roundg k2
         case measure => have := HK1.out; have := HK2.out; omega
        ·case rel => exact ⟨(x5_2), (x6_2), (wrap64 (x27_2 + 1)), (by first | rfl | (simp; done) | (simp [*]; done)), H', ⟨by have := HK1.out; have := HK2.out; omega⟩, ⟨by (with_reducible repeat (first | apply Kd.R_alloc | apply Kd.R_drewN | apply Kd.R_drew)); exact Kd.R_mono HO_5.out (fun _ hk => trivial)⟩, ⟨by (with_reducible repeat (first | apply mapMo.MS_alloc | apply mapMo.MS_drewN | apply mapMo.MS_drew)); exact HO_6.out⟩, ⟨bkp BK462⟩, ⟨bbw3 HB GE462 GE481 GE495⟩⟩
        ·case rel => exact ⟨(y500), (y497), (wrap64 (x27_2 + 1)), (by first | rfl | (simp; done) | (simp [*]; done)), H', ⟨by have := HK1.out; have := HK2.out; omega⟩, ⟨by (with_reducible repeat (first | apply Kd.R_alloc | apply Kd.R_drewN | apply Kd.R_drew)); exact Kd.R_mono HO502.out (fun _ hk => trivial)⟩, ⟨by (with_reducible repeat (first | apply mapMo.MS_alloc | apply mapMo.MS_drewN | apply mapMo.MS_drew)); exact HO499.out⟩, ⟨bkp BK462⟩, ⟨bbw3 HB GE462 GE481 GE495⟩⟩
     ·rw [if_neg c14] at H
      have c14b0 := decide_eq_false c14
      clear c14
      by_cases c73 : x5_1.length < 2932031007402
      ·rw [if_pos c73] at H
       have LMc73 := Aside0.mk c73
       clear c73
       obtain ⟨y477, hy477⟩ : ∃ y_ : List (S48), y_ = (impl_Motion_74.srtMo x5_1) := ⟨_, rfl⟩
       replace H : (some y477) = some r := by first | (rw [hy477]; with_reducible exact H) | (have H2_ := (Option.bind_some _ _).symm.trans H; rw [hy477]; with_reducible exact H2_) | (have H2_ := (Option.bind_some _ _).symm.trans H; with_reducible exact H2_) | with_reducible exact H | (rw [hy477]; exact H) | exact H
       have Ny477 := Aside0.mk hy477
       clear hy477
       obtain rfl := Option.some.inj H
       obtain ⟨Ao74, co74, eo74⟩ := Kd.R_slice HO_5.out
       subst eo74
       go_wp2_with (first | (go_at_call 74; refine (impl_Motion_74.sortR (base := w.heap.size) (ok := (fun _ => True)) (xs := x5_1) ?aO ?aL).mono ?_; (case aO => exact (kr HO_5)); (case aL => have := LMc73.out; omega); rintro e w75 ⟨rfl, ho, hg⟩; have hb : Below w.heap.size w w75 := Below.grown ((bbw1 HB GE462)) hg ((bsz1 HB GE462)) (fun k_ hk_ => ((Kd.R_bound ho).1 k_ hk_).2.1); have hat := trivial; rw [← Ny477.out] at ho; have n0_ := asd (mapMo.MS_over (by (with_reducible repeat (first | apply mapMo.MS_alloc | apply mapMo.MS_drewN | apply mapMo.MS_drew)); exact HO_6.out) (Kd.R_typed (kr HO_5)) hg); have n1_ := asd (blk_grown (g := gb462) (o := .cells #[.int .i64 a0_0, .int .i64 a0_1, .int .i64 a0_2] 29 (0, 0)) (bkp BK462) hg (Kd.R_ne HO_5.out BK462.out (by decide))); have n2_ := asd (hb); have n3_ := asd (ho); clear HO_6; clear BK462; clear HB; clear HO_5; have HO_6 := n0_; have BK462 := n1_; have HB := n2_; have HO479 := n3_; clear n0_ n1_ n2_ n3_; clear ho hb hg hat))
       go_ret
       exact ⟨_, by first | rfl | (simp [errW_none, errW_some] <;> rfl) | (simp [*, errW_none, errW_some] <;> rfl), by (with_reducible repeat (first | apply Kd.R_alloc | apply Kd.R_drewN | apply Kd.R_drew)); exact HO479.out, bbw1 HB GE462⟩
      ·rw [if_neg c73] at H
       exact absurd H (by simp)
  ·rw [if_neg c5] at H
   exact absurd H (by simp)
 ·rw [if_neg c4] at H
  exact absurd H (by simp)
end Go.Proofs.YtdodghjnlekgeaaGreat.PA
