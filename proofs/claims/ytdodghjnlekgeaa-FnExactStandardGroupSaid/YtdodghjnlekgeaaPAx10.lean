/- Walks written by program: each Go function that the law reaches comes to the plain function beside it. -/
import Derived.Test.YtdodghjnlekgeaaPAx0
import Derived.Test.YtdodghjnlekgeaaPAx9
namespace Go.Proofs.Ytdodghjnlekgeaa.PA
open Go.RowKit Go.Proofs.YtdodghjnlekgeaaW.PrintWords Go.Proofs.YtdodghjnlekgeaaW.PrintLast Go.Proofs.YtdodghjnlekgeaaW.PrintMore
attribute [local go_sem] max2_int min2_int max_two min_two max_three min_three max_four min_four   -- for this text's walks alone
set_option linter.unusedVariables false
set_option linter.unusedSimpArgs false

/-! ### impl_closeGroup: function 15 -/
mutual
def impl_closeGroup.l0 : Nat → List (S41) → List (S41) → List (S41) → Int → Int → Int → Int → Option ((List (S41)))
 | 0, _, _, _, _, _, _, _ => none
 | k + 1, x1, x5, x6, x7, x388000, x388001, x388002 => if x7 < (x5.length : Int) then (impl_closeGroup.l1 k x1 x5 x6 x7 x1 (x1.length : Int) 0 x388000 x388001 x388002) else (if x5.length < 2932031007402 then (some (impl_Motion.srtMo x5)) else (none))
def impl_closeGroup.l1 : Nat → List (S41) → List (S41) → List (S41) → Int → List (S41) → Int → Int → Int → Int → Int → Option ((List (S41)))
 | 0, _, _, _, _, _, _, _, _, _, _ => none
 | k + 1, x1, x5, x6, x7, x25, x26, x27, x388000, x388001, x388002 => if x27 < x26 then (if 0 ≤ x27 then (if x27 < (x25.length : Int) then (if 0 ≤ x7 then (if x7 < (x5.length : Int) then ((impl_Motion_times.f ((rd_T41 x25 x27).f0.f0) ((rd_T41 x25 x27).f0.f1) ((rd_T41 x25 x27).f0.f2) ((rd_T41 x25 x27).f0.f3) ((rd_T41 x25 x27).f1.f0) ((rd_T41 x25 x27).f1.f1) ((rd_T41 x5 x7).f0.f0) ((rd_T41 x5 x7).f0.f1) ((rd_T41 x5 x7).f0.f2) ((rd_T41 x5 x7).f0.f3) ((rd_T41 x5 x7).f1.f0) ((rd_T41 x5 x7).f1.f1)).bind fun bt408 => ((impl_Lattice_reduceMotion.f x388000 x388001 x388002 bt408.1 bt408.2.1 bt408.2.2.1 bt408.2.2.2.1 bt408.2.2.2.2.1 bt408.2.2.2.2.2).bind fun bt414 => ((mapMo.has k x6 bt414.1 bt414.2.1 bt414.2.2.1 bt414.2.2.2.1 bt414.2.2.2.2.1 bt414.2.2.2.2.2).bind fun t421 => (if t421 = true then (impl_closeGroup.l1 k x1 x5 x6 x7 x25 x26 (wrap64 (x27 + 1)) x388000 x388001 x388002) else (if (x6.length < 2932031007402 ∧ mapMo.wf (⟨(⟨bt414.1, bt414.2.1, bt414.2.2.1, bt414.2.2.2.1⟩ : S37), (⟨bt414.2.2.2.2.1, bt414.2.2.2.2.2⟩ : S39)⟩ : S41) = true) then (if x5.length < 2932031007402 then (impl_closeGroup.l1 k x1 (x5 ++ [(⟨(⟨bt414.1, bt414.2.1, bt414.2.2.1, bt414.2.2.2.1⟩ : S37), (⟨bt414.2.2.2.2.1, bt414.2.2.2.2.2⟩ : S39)⟩ : S41)]) (x6 ++ [(⟨(⟨bt414.1, bt414.2.1, bt414.2.2.1, bt414.2.2.2.1⟩ : S37), (⟨bt414.2.2.2.2.1, bt414.2.2.2.2.2⟩ : S39)⟩ : S41)]) x7 x25 x26 (wrap64 (x27 + 1)) x388000 x388001 x388002) else (none)) else (none)))))) else (none)) else (none)) else (none)) else (none)) else (impl_closeGroup.l0 k x1 x5 x6 (wrap64 (x7 + 1)) x388000 x388001 x388002)
end
def impl_closeGroup.f (k : Nat) (a0_0 : Int) (a0_1 : Int) (a0_2 : Int) (l1 : List (S41)) : Option ((List (S41))) := (impl_unit.f).bind fun bt388 => ((some (([(⟨(⟨bt388.1, bt388.2.1, bt388.2.2.1, bt388.2.2.2⟩ : S37), (⟨0, 0⟩ : S39)⟩ : S41)] : List (S41)) : List (S41))).bind fun y392 => ((some (([] : List (S41)) : List (S41))).bind fun y395 => (if 0 < (y392.length : Int) then (if (y395.length < 2932031007402 ∧ mapMo.wf (⟨(⟨(rd_T41 y392 0).f0.f0, (rd_T41 y392 0).f0.f1, (rd_T41 y392 0).f0.f2, (rd_T41 y392 0).f0.f3⟩ : S37), (⟨(rd_T41 y392 0).f1.f0, (rd_T41 y392 0).f1.f1⟩ : S39)⟩ : S41) = true) then (impl_closeGroup.l0 k l1 y392 (y395 ++ [(⟨(⟨(rd_T41 y392 0).f0.f0, (rd_T41 y392 0).f0.f1, (rd_T41 y392 0).f0.f2, (rd_T41 y392 0).f0.f3⟩ : S37), (⟨(rd_T41 y392 0).f1.f0, (rd_T41 y392 0).f1.f1⟩ : S39)⟩ : S41)]) 0 a0_0 a0_1 a0_2) else (none)) else (none))))
def impl_closeGroup.T9 : Bool × List (List Nat × List Nat) := (true, [([], []), ([], []), ([], []), ([], []), ([2, 3], [2, 3]), ([4], [4]), ([1, 5], [1, 5]), ([0, 6, 6], [0, 6]), ([], []), ([8, 7, 7, 0, 1, 2, 3, 4, 5, 6, 7, 8], [7, 8])])
def impl_closeGroup.B9 : List Nat := [0, 0, 0, 0, 12, 28, 62, 127, 0, 511]
theorem impl_closeGroup.tab9 : rtab .any (opsOf Try.f15 9) = impl_closeGroup.T9 := by kernel_rfl
theorem impl_closeGroup.bits9 : waitsOk impl_closeGroup.T9.2 impl_closeGroup.B9 = true := by kernel_rfl
set_option maxHeartbeats 80000000 in
set_option maxRecDepth 100000 in
theorem impl_closeGroup.calls (k : Nat) (a0_0 : Int) (a0_1 : Int) (a0_2 : Int) (A1 : Option Addr) (c1 : Nat) (l1 : List (S41)) (r : List (S41)) (w : World) (hr1 : Kd.C k41 w A1 l1.length l1) (hc1 : l1.length ≤ c1) (h : impl_closeGroup.f k a0_0 a0_1 a0_2 l1 = some r) :
  Calls Try.prog 15 #[.agg #[.int .i64 a0_0, .int .i64 a0_1, .int .i64 a0_2], .slice A1 l1.length c1] w fun e w' => ∃ v0_ : Value, e = .returned (v0_) ∧ Kd.R k41 41 w' w.heap.size (fun _ => True) v0_ r ∧ Below w.heap.size w w' := by
 have hu23 := Try.underlying23
 have hu41 := Try.underlying41
 have HR1 := Aside0.mk hr1
 have HC1 := Aside0.mk hc1
 clear hr1 hc1
 have HB := asd (Below.refl w.heap.size w)
 have H : ((impl_unit.f).bind fun bt388 => ((some (([(⟨(⟨bt388.1, bt388.2.1, bt388.2.2.1, bt388.2.2.2⟩ : S37), (⟨0, 0⟩ : S39)⟩ : S41)] : List (S41)) : List (S41))).bind fun y392 => ((some (([] : List (S41)) : List (S41))).bind fun y395 => (if 0 < (y392.length : Int) then (if (y395.length < 2932031007402 ∧ mapMo.wf (⟨(⟨(rd_T41 y392 0).f0.f0, (rd_T41 y392 0).f0.f1, (rd_T41 y392 0).f0.f2, (rd_T41 y392 0).f0.f3⟩ : S37), (⟨(rd_T41 y392 0).f1.f0, (rd_T41 y392 0).f1.f1⟩ : S39)⟩ : S41) = true) then (impl_closeGroup.l0 k l1 y392 (y395 ++ [(⟨(⟨(rd_T41 y392 0).f0.f0, (rd_T41 y392 0).f0.f1, (rd_T41 y392 0).f0.f2, (rd_T41 y392 0).f0.f3⟩ : S37), (⟨(rd_T41 y392 0).f1.f0, (rd_T41 y392 0).f1.f1⟩ : S39)⟩ : S41)]) 0 a0_0 a0_1 a0_2) else (none)) else (none))))) = some r := h
 clear h
 obtain ⟨⟨t388, t389, t390, t391⟩, A3, H⟩ := ob H
 try dsimp only at H
 obtain ⟨y392, hy392⟩ : ∃ y_ : List (S41), y_ = (([(⟨(⟨t388, t389, t390, t391⟩ : S37), (⟨0, 0⟩ : S39)⟩ : S41)] : List (S41))) := ⟨_, rfl⟩
 replace H : ((some (([] : List (S41)) : List (S41))).bind fun y395 => (if 0 < (y392.length : Int) then (if (y395.length < 2932031007402 ∧ mapMo.wf (⟨(⟨(rd_T41 y392 0).f0.f0, (rd_T41 y392 0).f0.f1, (rd_T41 y392 0).f0.f2, (rd_T41 y392 0).f0.f3⟩ : S37), (⟨(rd_T41 y392 0).f1.f0, (rd_T41 y392 0).f1.f1⟩ : S39)⟩ : S41) = true) then (impl_closeGroup.l0 k l1 y392 (y395 ++ [(⟨(⟨(rd_T41 y392 0).f0.f0, (rd_T41 y392 0).f0.f1, (rd_T41 y392 0).f0.f2, (rd_T41 y392 0).f0.f3⟩ : S37), (⟨(rd_T41 y392 0).f1.f0, (rd_T41 y392 0).f1.f1⟩ : S39)⟩ : S41)]) 0 a0_0 a0_1 a0_2) else (none)) else (none))) = some r := by first | (rw [hy392]; with_reducible exact H) | (have H2_ := (Option.bind_some _ _).symm.trans H; rw [hy392]; with_reducible exact H2_) | (have H2_ := (Option.bind_some _ _).symm.trans H; with_reducible exact H2_) | with_reducible exact H | (rw [hy392]; exact H) | exact H
 have Ny392 := Aside0.mk hy392
 clear hy392
 obtain ⟨y395, hy395⟩ : ∃ y_ : List (S41), y_ = (([] : List (S41))) := ⟨_, rfl⟩
 replace H : (if 0 < (y392.length : Int) then (if (y395.length < 2932031007402 ∧ mapMo.wf (⟨(⟨(rd_T41 y392 0).f0.f0, (rd_T41 y392 0).f0.f1, (rd_T41 y392 0).f0.f2, (rd_T41 y392 0).f0.f3⟩ : S37), (⟨(rd_T41 y392 0).f1.f0, (rd_T41 y392 0).f1.f1⟩ : S39)⟩ : S41) = true) then (impl_closeGroup.l0 k l1 y392 (y395 ++ [(⟨(⟨(rd_T41 y392 0).f0.f0, (rd_T41 y392 0).f0.f1, (rd_T41 y392 0).f0.f2, (rd_T41 y392 0).f0.f3⟩ : S37), (⟨(rd_T41 y392 0).f1.f0, (rd_T41 y392 0).f1.f1⟩ : S39)⟩ : S41)]) 0 a0_0 a0_1 a0_2) else (none)) else (none)) = some r := by first | (rw [hy395]; with_reducible exact H) | (have H2_ := (Option.bind_some _ _).symm.trans H; rw [hy395]; with_reducible exact H2_) | (have H2_ := (Option.bind_some _ _).symm.trans H; with_reducible exact H2_) | with_reducible exact H | (rw [hy395]; exact H) | exact H
 have Ny395 := Aside0.mk hy395
 clear hy395
 by_cases c4 : 0 < (y392.length : Int)
 ·rw [if_pos c4] at H
  have c4b0 := decide_eq_true c4
  have c4b1 : decide (0 < y392.length) = true := decide_eq_true (by omega)
  clear c4
  by_cases c5 : (y395.length < 2932031007402 ∧ mapMo.wf (⟨(⟨(rd_T41 y392 0).f0.f0, (rd_T41 y392 0).f0.f1, (rd_T41 y392 0).f0.f2, (rd_T41 y392 0).f0.f3⟩ : S37), (⟨(rd_T41 y392 0).f1.f0, (rd_T41 y392 0).f1.f1⟩ : S39)⟩ : S41) = true)
  ·rw [if_pos c5] at H
   have LMc5 := Aside0.mk c5
   clear c5
   obtain ⟨y399, hy399⟩ : ∃ y_ : List (S41), y_ = (y395 ++ [(⟨(⟨(rd_T41 y392 0).f0.f0, (rd_T41 y392 0).f0.f1, (rd_T41 y392 0).f0.f2, (rd_T41 y392 0).f0.f3⟩ : S37), (⟨(rd_T41 y392 0).f1.f0, (rd_T41 y392 0).f1.f1⟩ : S39)⟩ : S41)]) := ⟨_, rfl⟩
   replace H : (impl_closeGroup.l0 k l1 y392 y399 0 a0_0 a0_1 a0_2) = some r := by first | (rw [hy399]; with_reducible exact H) | (have H2_ := (Option.bind_some _ _).symm.trans H; rw [hy399]; with_reducible exact H2_) | (have H2_ := (Option.bind_some _ _).symm.trans H; with_reducible exact H2_) | with_reducible exact H | (rw [hy399]; exact H) | exact H
   have Ny399 := Aside0.mk hy399
   clear hy399
   have H' := Aside0.mk H
   clear H
   go_enter Try.func15, Try.ntmps15
   go_wp2_with (first | ((with_reducible refine gd 2 rfl ?_); refine bx #[.int .i64 a0_0, .int .i64 a0_1, .int .i64 a0_2] 23 ?_; intro gb387 hg w6 BK387 hb; have GE387 := ngw0 hg HB; replace HB := bS0 HB hb; clear hb hg) | ((with_reducible refine gate_callee (f := 22) rfl ?_); refine gl 11 Try.func22 #[] ?_; (with_reducible refine (impl_unit.calls _ _ _ _ _ A3.out).mono ?_); rintro e w7 ⟨rfl, hb⟩; refine ⟨_, rfl, ?_⟩; replace BK387 := bB BK387 hb; replace HB := bS1 HB GE387 hb; (try clear hb)) | ((with_reducible refine gd 13 rfl ?_); refine Kd.R_lit k41 _ 41 ?hg (N := 13) ?hd (xs := ([(⟨(⟨t388, t389, t390, t391⟩ : S37), (⟨0, 0⟩ : S39)⟩ : S41)] : List (S41))) (inner := [.int .i64 t388, .int .i64 t389, .int .i64 t390, .int .i64 t391, .int .i64 0, .int .i64 0]) (ok := fun _ => True) (okp := fun _ => True) ?hr ?hp (fun _ hk => hk) trivial (Below.refl _ _) (Nat.le_refl _) (by simp) ?_; (case hd => rfl); (case hg => rfl); (case hr => first | (go_simp; done) | (go_simp; rfl)); (case hp => exact (Reps.c6 (show Kd.M k41 _ _ _ (⟨(⟨t388, t389, t390, t391⟩ : S37), (⟨0, 0⟩ : S39)⟩ : S41) [.int .i64 t388, .int .i64 t389, .int .i64 t390, .int .i64 t391, .int .i64 0, .int .i64 0] from (k41_mkM _ _ _ (⟨(⟨t388, t389, t390, t391⟩ : S37), (⟨0, 0⟩ : S39)⟩ : S41) )) (Reps.none _ _))); intro v393 w8 ho9 hb hg_ hnew_; clear hg_ hnew_; (first | rw [← Ny392.out] at ho9 | (simp only [Int.reduceToNat] at ho9; rw [← Ny392.out] at ho9)); have HO394 := asd (Kd.R_lower ho9 (bsz1 HB GE387)); replace BK387 := bB BK387 hb; replace HB := bS1 HB GE387 hb; clear hb ho9) | ((with_reducible refine gd 14 rfl ?_); refine mapMo.make_event ?hg (N := 14) ?hd ?hr ?_; (case hd => rfl); (case hg => rfl); (case hr => first | rfl | (go_simp; done) | (go_simp; rfl)); intro gbM hg w10 hmap_ hb; rw [← Ny395.out] at hmap_; have GEM := asd ((by rw [hg]; exact (bsz1 HB GE387) : w.heap.size ≤ gbM)); clear hg; replace HO394 := asd (Kd.R_below (kr HO394) hb); have HO397 := Aside0.mk hmap_; replace BK387 := bB BK387 hb; replace HB := bS1 HB GE387 hb; clear hb hmap_; obtain ⟨Ao12, co12, eo12⟩ := Kd.R_slice HO394.out; subst eo12; have p398 : 0 ≤ (0 : Int) := (by omega); have q398 : 0 < (y392.length : Int) := od; obtain ⟨ad398, e398, hx398_0, hx398_1, hx398_2, hx398_3, hx398_4, hx398_5⟩ := at_T41 (Kd.R_reads' HO394.out).2.2 0 p398 q398; cases e398; have qi398 : (0 < y392.length) = True := eq_true (by omega); (try rw [show ((0 : Int)).toNat = 0 from rfl] at hx398_0); (try rw [show 0 * 6 = 0 from rfl] at hx398_0); (try rw [Addr.add_zero'] at hx398_0); (try rw [show ((0 : Int)).toNat = 0 from rfl] at hx398_1); (try rw [show 0 * 6 = 0 from rfl] at hx398_1); (try rw [Addr.add_zero'] at hx398_1); (try rw [show ((0 : Int)).toNat = 0 from rfl] at hx398_2); (try rw [show 0 * 6 = 0 from rfl] at hx398_2); (try rw [Addr.add_zero'] at hx398_2); (try rw [show ((0 : Int)).toNat = 0 from rfl] at hx398_3); (try rw [show 0 * 6 = 0 from rfl] at hx398_3); (try rw [Addr.add_zero'] at hx398_3); (try rw [show ((0 : Int)).toNat = 0 from rfl] at hx398_4); (try rw [show 0 * 6 = 0 from rfl] at hx398_4); (try rw [Addr.add_zero'] at hx398_4); (try rw [show ((0 : Int)).toNat = 0 from rfl] at hx398_5); (try rw [show 0 * 6 = 0 from rfl] at hx398_5); (try rw [Addr.add_zero'] at hx398_5); replace p398 := eq_true p398; replace q398 := eq_true q398) | ((with_reducible refine mapMo.gate_ins rfl ?_); refine mapMo.ins_event rfl _ _ _ rfl rfl (by (with_reducible repeat (first | apply mapMo.MS_alloc | apply mapMo.MS_drewN | apply mapMo.MS_drew)); exact HO397.out) (⟨(⟨(rd_T41 y392 0).f0.f0, (rd_T41 y392 0).f0.f1, (rd_T41 y392 0).f0.f2, (rd_T41 y392 0).f0.f3⟩ : S37), (⟨(rd_T41 y392 0).f1.f0, (rd_T41 y392 0).f1.f1⟩ : S39)⟩ : S41) rfl rfl LMc5.out.2 LMc5.out.1 ?_; intro w13 ho hg; rw [← Ny399.out] at ho; have hb : Below w.heap.size w w13 := mapMo.below_put (bbw1 HB GE387) GEM.out hg; have n0_ := asd (mapMo.blk_put (g := gb387) (cs := #[.int .i64 a0_0, .int .i64 a0_1, .int .i64 a0_2]) (t := 23) (bkp BK387) (by (with_reducible repeat (first | apply mapMo.MS_alloc | apply mapMo.MS_drewN | apply mapMo.MS_drew)); exact HO397.out) hg); have n1_ := asd (mapMo.R_map (kr HO394) (by (with_reducible repeat (first | apply mapMo.MS_alloc | apply mapMo.MS_drewN | apply mapMo.MS_drew)); exact HO397.out) hg); have n2_ := asd (hb); have n3_ := asd (ho); clear BK387; clear HO394; clear HB; clear HO397; have BK387 := n0_; have HO394 := n1_; have HB := n2_; have HO401 := n3_; clear n0_ n1_ n2_ n3_; clear ho hb hg))
   go_loopg [5, 7] k (fun kq v5 v7 w' => ∃ (x5_1 : List (S41)) (x6_1 : List (S41)) (x7_1 : Int), v7 = .int .i64 x7_1 ∧ Aside0 (impl_closeGroup.l0 kq l1 x5_1 x6_1 x7_1 a0_0 a0_1 a0_2 = some r) ∧ Aside0 (kq ≤ k) ∧ Aside0 (Kd.R k41 41 w' w.heap.size (fun _ => True) v5 x5_1) ∧ Aside0 (mapMo.MS w' gbM x6_1) ∧ Aside0 (w'.heap[gb387]? = some (.cells #[.int .i64 a0_0, .int .i64 a0_1, .int .i64 a0_2] 23 (0, 0))) ∧ Aside0 (Below w.heap.size w w'))
   case atStart => exact ⟨(y392), (y399), (0), (by first | rfl | (simp; done) | (simp [*]; done)), H', ⟨Nat.le_refl _⟩, ⟨by (with_reducible repeat (first | apply Kd.R_alloc | apply Kd.R_drewN | apply Kd.R_drew)); exact HO394.out⟩, ⟨by (with_reducible repeat (first | apply mapMo.MS_alloc | apply mapMo.MS_drewN | apply mapMo.MS_drew)); exact HO401.out⟩, ⟨bkp BK387⟩, ⟨bbw1 HB GE387⟩⟩
   case round =>
    clear H'
    try clear c1
    try clear c2
    try clear p2
    try clear p3
    try clear q3
    try clear hx3
    try clear qi3
    try clear c4
    try clear c4b0
    try clear c4b1
    try clear c5
    try clear c6
    try clear hx398_0
    try clear hx398_1
    try clear hx398_2
    try clear hx398_3
    try clear hx398_4
    try clear hx398_5
    try clear p398
    try clear q398
    obtain ⟨x5_1, x6_1, x7_1, rfl, HA, HK1, HO_5, HO_6, BK387, HB⟩ := hrel
    cases gk with
    | zero => exact absurd HA.out (by simp [impl_closeGroup.l0])
    | succ k1 =>
     have H := HA.out
     clear HA
     simp only [impl_closeGroup.l0] at H
     by_cases c14 : x7_1 < (x5_1.length : Int)
     ·rw [if_pos c14] at H
      have c14b0 := decide_eq_true c14
      clear c14
      have H' := Aside0.mk H
      clear H
      obtain ⟨Ao15, co15, eo15⟩ := Kd.R_slice HO_5.out
      subst eo15
      go_wp2
      go_loopg [5, 27] k1 (fun kq v5 v27 w' => ∃ (x5_2 : List (S41)) (x6_2 : List (S41)) (x27_2 : Int), v27 = .int .i64 x27_2 ∧ Aside0 (impl_closeGroup.l1 kq l1 x5_2 x6_2 x7_1 l1 (l1.length : Int) x27_2 a0_0 a0_1 a0_2 = some r) ∧ Aside0 (kq ≤ k1) ∧ Aside0 (Kd.R k41 41 w' w.heap.size (fun _ => True) v5 x5_2) ∧ Aside0 (mapMo.MS w' gbM x6_2) ∧ Aside0 (w'.heap[gb387]? = some (.cells #[.int .i64 a0_0, .int .i64 a0_1, .int .i64 a0_2] 23 (0, 0))) ∧ Aside0 (Below w.heap.size w w'))
      case atStart => exact ⟨(x5_1), (x6_1), (0), (by first | rfl | (simp; done) | (simp [*]; done)), H', ⟨Nat.le_refl _⟩, ⟨by (with_reducible repeat (first | apply Kd.R_alloc | apply Kd.R_drewN | apply Kd.R_drew)); exact HO_5.out⟩, ⟨by (with_reducible repeat (first | apply mapMo.MS_alloc | apply mapMo.MS_drewN | apply mapMo.MS_drew)); exact HO_6.out⟩, ⟨bkp BK387⟩, ⟨bbw1 HB GE387⟩⟩
      case round =>
       clear H'
       try clear c1
       try clear c2
       try clear p2
       try clear p3
       try clear q3
       try clear hx3
       try clear qi3
       try clear c4
       try clear c4b0
       try clear c4b1
       try clear c5
       try clear c6
       try clear c14
       try clear c14b0
       try clear c15
       try clear hx398_0
       try clear hx398_1
       try clear hx398_2
       try clear hx398_3
       try clear hx398_4
       try clear hx398_5
       try clear p2
       try clear p3
       try clear p398
       try clear q3
       try clear q398
       obtain ⟨x5_2, x6_2, x27_2, rfl, HA, HK2, HO_5, HO_6, BK387, HB⟩ := hrel
       cases gk with
       | zero => exact absurd HA.out (by simp [impl_closeGroup.l1])
       | succ k2 =>
        have H := HA.out
        clear HA
        simp only [impl_closeGroup.l1] at H
        by_cases c16 : x27_2 < (l1.length : Int)
        rw [if_pos c16] at H
        have c16b0 := decide_eq_true c16
        clear c16
        by_cases c17 : 0 ≤ x27_2
        rw [if_pos c17] at H
        have c17b0 := decide_eq_true c17
        clear c17
        by_cases c18 : x27_2 < (l1.length : Int)
        rw [if_pos c18] at H
        have c18b0 := decide_eq_true c18
        clear c18
        by_cases c19 : 0 ≤ x7_1
        rw [if_pos c19] at H
        have c19b0 := decide_eq_true c19
        clear c19
        by_cases c20 : x7_1 < (x5_2.length : Int)
        rw [if_pos c20] at H
        have c20b0 := decide_eq_true c20
        clear c20
        obtain ⟨⟨t408, t409, t410, t411, t412, t413⟩, A21, H⟩ := ob H
        try dsimp only at H
        obtain ⟨⟨t414, t415, t416, t417, t418, t419⟩, A22, H⟩ := ob H
        try dsimp only at H
        obtain ⟨t421, A23, H⟩ := ob H
        try dsimp only at H
        by_cases c24 : t421 = true
        subst c24
        replace H := ifT H
        have H' := Aside0.mk H
        clear H
        rotate_left
        replace c24 := Bool.eq_false_iff.mpr c24
        subst c24
        replace H := ifF H
        by_cases c46 : (x6_2.length < 2932031007402 ∧ mapMo.wf (⟨(⟨t414, t415, t416, t417⟩ : S37), (⟨t418, t419⟩ : S39)⟩ : S41) = true)
        rw [if_pos c46] at H
        have LMc46 := Aside0.mk c46
        clear c46
        obtain ⟨y422, hy422⟩ : ∃ y_ : List (S41), y_ = (x6_2 ++ [(⟨(⟨t414, t415, t416, t417⟩ : S37), (⟨t418, t419⟩ : S39)⟩ : S41)]) := ⟨_, rfl⟩
        replace H : (if x5_2.length < 2932031007402 then (impl_closeGroup.l1 k2 l1 (x5_2 ++ [(⟨(⟨t414, t415, t416, t417⟩ : S37), (⟨t418, t419⟩ : S39)⟩ : S41)]) y422 x7_1 l1 (l1.length : Int) (wrap64 (x27_2 + 1)) a0_0 a0_1 a0_2) else (none)) = some r := by first | (rw [hy422]; with_reducible exact H) | (have H2_ := (Option.bind_some _ _).symm.trans H; rw [hy422]; with_reducible exact H2_) | (have H2_ := (Option.bind_some _ _).symm.trans H; with_reducible exact H2_) | with_reducible exact H | (rw [hy422]; exact H) | exact H
        have Ny422 := Aside0.mk hy422
        clear hy422
        by_cases c47 : x5_2.length < 2932031007402
        rw [if_pos c47] at H
        have LMc47 := Aside0.mk c47
        clear c47
        obtain ⟨y425, hy425⟩ : ∃ y_ : List (S41), y_ = (x5_2 ++ [(⟨(⟨t414, t415, t416, t417⟩ : S37), (⟨t418, t419⟩ : S39)⟩ : S41)]) := ⟨_, rfl⟩
        replace H : (impl_closeGroup.l1 k2 l1 y425 y422 x7_1 l1 (l1.length : Int) (wrap64 (x27_2 + 1)) a0_0 a0_1 a0_2) = some r := by first | (rw [hy425]; with_reducible exact H) | (have H2_ := (Option.bind_some _ _).symm.trans H; rw [hy425]; with_reducible exact H2_) | (have H2_ := (Option.bind_some _ _).symm.trans H; with_reducible exact H2_) | with_reducible exact H | (rw [hy425]; exact H) | exact H
        have Ny425 := Aside0.mk hy425
        clear hy425
        have H' := Aside0.mk H
        clear H
        rotate_left
        ·rw [if_neg c47] at H
         exact absurd H (by simp)
        ·rw [if_neg c46] at H
         exact absurd H (by simp)
        ·rw [if_neg c20] at H
         exact absurd H (by simp)
        ·rw [if_neg c19] at H
         exact absurd H (by simp)
        ·rw [if_neg c18] at H
         exact absurd H (by simp)
        ·rw [if_neg c17] at H
         exact absurd H (by simp)
        rw [if_neg c16] at H
        have c16b0 := decide_eq_false c16
        clear c16
        have H' := Aside0.mk H
        clear H
        rotate_left
        rotate_left 2
        ·go_wp2
         go_roundg k2
         case measure => have := HK1.out; have := HK2.out; omega
         case rel => exact ⟨(x5_2), (x6_2), (wrap64 (x7_1 + 1)), (by first | rfl | (simp; done) | (simp [*]; done)), H', ⟨by have := HK1.out; have := HK2.out; omega⟩, ⟨by (with_reducible repeat (first | apply Kd.R_alloc | apply Kd.R_drewN | apply Kd.R_drew)); exact HO_5.out⟩, ⟨by (with_reducible repeat (first | apply mapMo.MS_alloc | apply mapMo.MS_drewN | apply mapMo.MS_drew)); exact HO_6.out⟩, ⟨bkp BK387⟩, ⟨bbw1 HB GE387⟩⟩
        all_goals
         obtain ⟨p405, q405, ad405, e405, hx405_0, hx405_1, hx405_2, hx405_3, hx405_4, hx405_5⟩ := at_T41x HR1.out HB x27_2
         cases e405
         try go_wp2_with (first | ((with_reducible refine gd 9 rfl ?_); refine bx #[.int .i64 0, .int .i64 0, .int .i64 0, .int .i64 0, .int .i64 0, .int .i64 0] 41 ?_; intro gb406 hg w25 BK406 hb; replace HO_5 := asd (Kd.R_below (Kd.R_elderB (kr HO_5) gb406 (Nat.le_of_eq hg.symm)) hb); replace HO_6 := asd (mapMo.MS_below (by (with_reducible repeat (first | apply mapMo.MS_alloc | apply mapMo.MS_drewN | apply mapMo.MS_drew)); exact HO_6.out) hb); have GE406 := ngw1 hg HB GE387; replace HB := bS1 HB GE387 hb; have NB387_406 := nlt hg BK387; have NB406_387 := nsy (nlt hg BK387); replace BK387 := bB BK387 hb; clear hb hg; have hnb26 := NB406_387.out; have hnc26 := NB387_406.out; obtain ⟨hcz27_0, hcz27_1, hcz27_2, hcz27_3, hcz27_4, hcz27_5, hfz27_0, hfz27_1, hfz27_2, hfz27_3, hfz27_4, hfz27_5⟩ := bz6 BK406))
         obtain ⟨w28, h_w28⟩ : ∃ w_, ((((((w25.setCell ⟨gb406, 0, none⟩ (.int .i64 ((rd_T41 l1 x27_2).f0.f0))).setCell ⟨gb406, 1, none⟩ (.int .i64 ((rd_T41 l1 x27_2).f0.f1))).setCell ⟨gb406, 2, none⟩ (.int .i64 ((rd_T41 l1 x27_2).f0.f2))).setCell ⟨gb406, 3, none⟩ (.int .i64 ((rd_T41 l1 x27_2).f0.f3))).setCell ⟨gb406, 4, none⟩ (.int .i64 ((rd_T41 l1 x27_2).f1.f0))).setCell ⟨gb406, 5, none⟩ (.int .i64 ((rd_T41 l1 x27_2).f1.f1))) = w_ := ⟨_, rfl⟩
         replace HO_5 : Aside0 (Kd.R k41 41 w28 w.heap.size (fun k_ => k_ ≠ gb406) u5 x5_2) := by rw [← h_w28]; exact ⟨by (with_reducible repeat (first | apply Kd.R_alloc | apply Kd.R_drewN | apply Kd.R_drew)); exact Kd.R_mono (rw6 (Kd.R_mono HO_5.out (fun k_ hk => (⟨hk, hk.2⟩ : _ ∧ k_ ≠ gb406)))) (fun _ hk => hk.1.2)⟩
         replace HO_6 : Aside0 (mapMo.MS w28 gbM x6_2) := by rw [← h_w28]; exact ⟨by exact (by have q_ := mapMo.MS_ne HO_6.out BK406.out; repeat (first | (with_reducible first | exact HO_6.out | refine mapMo.MS_set ?_ q_ | apply mapMo.MS_alloc | apply mapMo.MS_drewN | apply mapMo.MS_drew) | exact HO_6.out))⟩
         replace BK387 : Aside0 (w28.heap[gb387]? = some (.cells #[.int .i64 a0_0, .int .i64 a0_1, .int .i64 a0_2] 23 (0, 0))) := by rw [← h_w28]; exact ⟨bq1 BK387 NB387_406⟩
         replace BK406 : Aside0 (w28.heap[gb406]? = some (.cells #[.int .i64 ((rd_T41 l1 x27_2).f0.f0), .int .i64 ((rd_T41 l1 x27_2).f0.f1), .int .i64 ((rd_T41 l1 x27_2).f0.f2), .int .i64 ((rd_T41 l1 x27_2).f0.f3), .int .i64 ((rd_T41 l1 x27_2).f1.f0), .int .i64 ((rd_T41 l1 x27_2).f1.f1)] 41 (0, 0))) := by rw [← h_w28]; exact ⟨bq0 BK406⟩
         replace HB : Aside0 (Below w.heap.size w w28) := by rw [← h_w28]; exact ⟨bbw2 HB GE387 GE406⟩
         (try rw [h_w28]); clear h_w28
         replace HO_5 := asd (Kd.R_drew HO_5.out)
         replace HO_6 := asd (mapMo.MS_drew HO_6.out)
         replace BK387 := asd (blk_drew BK387.out)
         replace BK406 := asd (blk_drew BK406.out)
         replace HB := asd (below_drew1 HB.out)
         obtain ⟨Ao30, co30, eo30⟩ := Kd.R_slice HO_5.out
         (first | subst eo30 | (injection eo30 with f1_ f2_ f3_; have f4_ := f1_.symm; have f5_ := f3_.symm; clear f1_ f2_ f3_; subst f4_; subst f5_))
         have p407 : 0 ≤ (x7_1 : Int) := od
         have q407 : x7_1 < (x5_2.length : Int) := od
         obtain ⟨ad407, e407, hx407_0, hx407_1, hx407_2, hx407_3, hx407_4, hx407_5⟩ := at_T41 (Kd.R_reads' HO_5.out).2.2 x7_1 p407 q407
         cases e407
         replace p407 := eq_true p407
         replace q407 := eq_true q407
         refine sh 10 (cb3 BK387 (cb6 BK406 (PA.c1 hx407_0 (PA.c1 hx407_1 (PA.c1 hx407_2 (PA.c1 hx407_3 (PA.c1 hx407_4 (PA.e1 hx407_5)))))))) (fun hHeld => ?_); refine with_tabW impl_closeGroup.tab9 impl_closeGroup.bits9 (fun HT_ HW_ => ?_)
         generalize w28.drew = w29 at HO_5 HO_6 BK387 BK406 HB hx407_0 hx407_1 hx407_2 hx407_3 hx407_4 hx407_5 hHeld ⊢
         refine pu 2 (some 33) (bs 10 4) HT_ ?_
         refine pu 3 (some 34) (bs 10 12) HT_ ?_
         refine pu 4 (some 35) (bs 10 28) HT_ ?_
         refine ta 0 (some 31) (bs 10 29) HT_ HW_ hHeld ?_
         refine ta 1 (some 32) (bT 10 5) HT_ HW_ hHeld ?_
         refine ta 5 (some 36) (bT 10 6) HT_ HW_ hHeld ?_
         refine join_ (σ := Nat) 1 (bT 10 9) (fun s_ => [(37, .agg #[.int .i64 t408, .int .i64 t409, .int .i64 t410, .int .i64 t411, .int .i64 t412, .int .i64 t413]), (38, .agg #[.int .i64 t414, .int .i64 t415, .int .i64 t416, .int .i64 t417, .int .i64 t418, .int .i64 t419]), (10, .pointer (some ⟨s_, 0, none⟩))]) (fun s_ w' => (w'.cell? ⟨gb387, 0, none⟩ = some (.int .i64 a0_0) ∧ w'.cell? ⟨gb387, 1, none⟩ = some (.int .i64 a0_1) ∧ w'.cell? ⟨gb387, 2, none⟩ = some (.int .i64 a0_2) ∧ w'.cell? ⟨gb406, 0, none⟩ = some (.int .i64 ((rd_T41 l1 x27_2).f0.f0)) ∧ w'.cell? ⟨gb406, 1, none⟩ = some (.int .i64 ((rd_T41 l1 x27_2).f0.f1)) ∧ w'.cell? ⟨gb406, 2, none⟩ = some (.int .i64 ((rd_T41 l1 x27_2).f0.f2)) ∧ w'.cell? ⟨gb406, 3, none⟩ = some (.int .i64 ((rd_T41 l1 x27_2).f0.f3)) ∧ w'.cell? ⟨gb406, 4, none⟩ = some (.int .i64 ((rd_T41 l1 x27_2).f1.f0)) ∧ w'.cell? ⟨gb406, 5, none⟩ = some (.int .i64 ((rd_T41 l1 x27_2).f1.f1)) ∧ w'.cell? (ad407.add ((x7_1).toNat * 6)) = some (.int .i64 ((rd_T41 x5_2 x7_1).f0.f0)) ∧ w'.cell? ⟨(ad407.add ((x7_1).toNat * 6)).block, (ad407.add ((x7_1).toNat * 6)).off + 1, none⟩ = some (.int .i64 ((rd_T41 x5_2 x7_1).f0.f1)) ∧ w'.cell? ⟨(ad407.add ((x7_1).toNat * 6)).block, (ad407.add ((x7_1).toNat * 6)).off + 2, none⟩ = some (.int .i64 ((rd_T41 x5_2 x7_1).f0.f2)) ∧ w'.cell? ⟨(ad407.add ((x7_1).toNat * 6)).block, (ad407.add ((x7_1).toNat * 6)).off + 3, none⟩ = some (.int .i64 ((rd_T41 x5_2 x7_1).f0.f3)) ∧ w'.cell? ⟨(ad407.add ((x7_1).toNat * 6)).block, (ad407.add ((x7_1).toNat * 6)).off + 4, none⟩ = some (.int .i64 ((rd_T41 x5_2 x7_1).f1.f0)) ∧ w'.cell? ⟨(ad407.add ((x7_1).toNat * 6)).block, (ad407.add ((x7_1).toNat * 6)).off + 5, none⟩ = some (.int .i64 ((rd_T41 x5_2 x7_1).f1.f1))) ∧ (Kd.R k41 41 w' w.heap.size (fun k_ => k_ ≠ gb406 ∧ k_ ≠ s_) (.slice (some ad407) x5_2.length co30) x5_2) ∧ (mapMo.MS w' gbM x6_2) ∧ (w'.heap[gb387]? = some (.cells #[.int .i64 a0_0, .int .i64 a0_1, .int .i64 a0_2] 23 (0, 0))) ∧ (w'.heap[gb406]? = some (.cells #[.int .i64 ((rd_T41 l1 x27_2).f0.f0), .int .i64 ((rd_T41 l1 x27_2).f0.f1), .int .i64 ((rd_T41 l1 x27_2).f0.f2), .int .i64 ((rd_T41 l1 x27_2).f0.f3), .int .i64 ((rd_T41 l1 x27_2).f1.f0), .int .i64 ((rd_T41 l1 x27_2).f1.f1)] 41 (0, 0))) ∧ (w'.heap[s_]? = some (.cells #[.int .i64 0, .int .i64 0, .int .i64 0, .int .i64 0, .int .i64 0, .int .i64 0] 41 (0, 0))) ∧ (w.heap.size ≤ s_) ∧ (w.heap.size ≤ s_) ∧ (gb387 ≠ s_) ∧ (s_ ≠ gb387) ∧ (gb406 ≠ s_) ∧ (s_ ≠ gb406) ∧ (Below w.heap.size w w')) ?_ ?_
         rotate_left
         ·intro hCont
          refine two_ (i := 6) (j := 8) (Ni := some 37) (Nj := some 10) (bT 10 7) (bs 10 319) rfl rfl rfl rfl (two_of HT_.out (by kernel_rfl)) (by decide) (by decide) (fun K hK => ?_) (fun K hK => ?_)
          ·skip
           refine gs Try.func24 #[.agg #[.int .i64 ((rd_T41 l1 x27_2).f0.f0), .int .i64 ((rd_T41 l1 x27_2).f0.f1), .int .i64 ((rd_T41 l1 x27_2).f0.f2), .int .i64 ((rd_T41 l1 x27_2).f0.f3), .int .i64 ((rd_T41 l1 x27_2).f1.f0), .int .i64 ((rd_T41 l1 x27_2).f1.f1)], .agg #[.int .i64 ((rd_T41 x5_2 x7_1).f0.f0), .int .i64 ((rd_T41 x5_2 x7_1).f0.f1), .int .i64 ((rd_T41 x5_2 x7_1).f0.f2), .int .i64 ((rd_T41 x5_2 x7_1).f0.f3), .int .i64 ((rd_T41 x5_2 x7_1).f1.f0), .int .i64 ((rd_T41 x5_2 x7_1).f1.f1)]] ?_
           with_reducible refine (impl_Motion_times.calls _ _ _ _ _ _ _ _ _ _ _ _ _ _ _ _ _ _ _ A21.out).mono ?_
           rintro e w31 ⟨rfl, hb⟩
           have HS9_ := hbc hb (hHeld.2.2.2.2.2.2.2.2.2.1)
           have HS10_ := hbc hb (hHeld.2.2.2.2.2.2.2.2.2.2.1)
           have HS11_ := hbc hb (hHeld.2.2.2.2.2.2.2.2.2.2.2.1)
           have HS12_ := hbc hb (hHeld.2.2.2.2.2.2.2.2.2.2.2.2.1)
           have HS13_ := hbc hb (hHeld.2.2.2.2.2.2.2.2.2.2.2.2.2.1)
           have HS14_ := hbc hb (hHeld.2.2.2.2.2.2.2.2.2.2.2.2.2.2)
           refine ⟨_, rfl, ?_⟩
           replace HO_5 := asd (Kd.R_below (kr HO_5) hb)
           replace HO_6 := asd (mapMo.MS_below (by (with_reducible repeat (first | apply mapMo.MS_alloc | apply mapMo.MS_drewN | apply mapMo.MS_drew)); exact HO_6.out) hb)
           replace BK387 := bB BK387 hb
           replace BK406 := bB BK406 hb
           replace HB := bS2 HB GE387 GE406 hb
           (try clear hb)
           (try clear hb2)
           (try clear hk)
           (try clear hi)
           refine hK.out _ _ ⟨bcl BK387 0, bcl BK387 1, bcl BK387 2, bcl BK406 0, bcl BK406 1, bcl BK406 2, bcl BK406 3, bcl BK406 4, bcl BK406 5, HS9_, HS10_, HS11_, HS12_, HS13_, HS14_⟩ (fun hHeld => ?_)
           clear hK K
           refine norm_ (a' := ?_) ?_ ?_
           rotate_left
           ·show Act.put _ (some 37) _ = _
            simp only [Act.put, sA, sB, sC, i64_w, i32_w]
            rfl
           refine two_ (i := 7) (j := 8) (Ni := some 38) (Nj := some 10) (bT 10 8) (bs 10 383) rfl rfl rfl rfl (two_of HT_.out (by kernel_rfl)) (by decide) (by decide) (fun K hK => ?_) (fun K hK => ?_)
           ·skip
            refine gs Try.func23 #[.agg #[.int .i64 a0_0, .int .i64 a0_1, .int .i64 a0_2], .agg #[.int .i64 t408, .int .i64 t409, .int .i64 t410, .int .i64 t411, .int .i64 t412, .int .i64 t413]] ?_
            with_reducible refine (impl_Lattice_reduceMotion.calls _ _ _ _ _ _ _ _ _ _ _ _ _ _ _ _ A22.out).mono ?_
            rintro e w32 ⟨rfl, hb⟩
            have HS9_ := hbc hb (hHeld.2.2.2.2.2.2.2.2.2.1)
            have HS10_ := hbc hb (hHeld.2.2.2.2.2.2.2.2.2.2.1)
            have HS11_ := hbc hb (hHeld.2.2.2.2.2.2.2.2.2.2.2.1)
            have HS12_ := hbc hb (hHeld.2.2.2.2.2.2.2.2.2.2.2.2.1)
            have HS13_ := hbc hb (hHeld.2.2.2.2.2.2.2.2.2.2.2.2.2.1)
            have HS14_ := hbc hb (hHeld.2.2.2.2.2.2.2.2.2.2.2.2.2.2)
            refine ⟨_, rfl, ?_⟩
            replace HO_5 := asd (Kd.R_below (kr HO_5) hb)
            replace HO_6 := asd (mapMo.MS_below (by (with_reducible repeat (first | apply mapMo.MS_alloc | apply mapMo.MS_drewN | apply mapMo.MS_drew)); exact HO_6.out) hb)
            replace BK387 := bB BK387 hb
            replace BK406 := bB BK406 hb
            replace HB := bS2 HB GE387 GE406 hb
            (try clear hb)
            (try clear hb2)
            (try clear hk)
            (try clear hi)
            refine hK.out _ _ ⟨bcl BK387 0, bcl BK387 1, bcl BK387 2, bcl BK406 0, bcl BK406 1, bcl BK406 2, bcl BK406 3, bcl BK406 4, bcl BK406 5, HS9_, HS10_, HS11_, HS12_, HS13_, HS14_⟩ (fun hHeld => ?_)
            clear hK K
            refine norm_ (a' := ?_) ?_ ?_
            rotate_left
            ·show Act.put _ (some 38) _ = _
             simp only [Act.put, sA, sB, sC, i64_w, i32_w]
             rfl
            refine ro 8 (some 10) (bT 10 9) HT_ (fun K hK => ?_)
            refine box_step ?hg (N := 10) ?hd (cs := #[.int .i64 0, .int .i64 0, .int .i64 0, .int .i64 0, .int .i64 0, .int .i64 0]) (t := 41) ?hr ?_; (case hd => rfl); (case hg => rfl); (case hr => first | (go_simp; done) | (go_simp; rfl))
            intro gb420 hg w33 hbox hb
            have HS9_ := hbc hb (hHeld.2.2.2.2.2.2.2.2.2.1)
            have HS10_ := hbc hb (hHeld.2.2.2.2.2.2.2.2.2.2.1)
            have HS11_ := hbc hb (hHeld.2.2.2.2.2.2.2.2.2.2.2.1)
            have HS12_ := hbc hb (hHeld.2.2.2.2.2.2.2.2.2.2.2.2.1)
            have HS13_ := hbc hb (hHeld.2.2.2.2.2.2.2.2.2.2.2.2.2.1)
            have HS14_ := hbc hb (hHeld.2.2.2.2.2.2.2.2.2.2.2.2.2.2)
            replace HO_5 := asd (Kd.R_below (Kd.R_elderB (kr HO_5) gb420 (Nat.le_of_eq hg.symm)) hb)
            replace HO_6 := asd (mapMo.MS_below (by (with_reducible repeat (first | apply mapMo.MS_alloc | apply mapMo.MS_drewN | apply mapMo.MS_drew)); exact HO_6.out) hb)
            have BK420 := asd (hbox)
            have GW420 := ngw2 hg HB GE387 GE406
            have GE420 := ngw2 hg HB GE387 GE406
            replace HB := bS2 HB GE387 GE406 hb
            have NB387_420 := nlt hg BK387
            have NB420_387 := nsy (nlt hg BK387)
            replace BK387 := bB BK387 hb
            have NB406_420 := nlt hg BK406
            have NB420_406 := nsy (nlt hg BK406)
            replace BK406 := bB BK406 hb
            clear hb hbox hg
            refine hK.out _ _ ⟨bcl BK387 0, bcl BK387 1, bcl BK387 2, bcl BK406 0, bcl BK406 1, bcl BK406 2, bcl BK406 3, bcl BK406 4, bcl BK406 5, HS9_, HS10_, HS11_, HS12_, HS13_, HS14_⟩ (fun hHeld => ?_)
            clear hK K
            refine norm_ (a' := ?_) ?_ ?_
            rotate_left
            ·show Act.put _ (some 10) _ = _
             simp only [Act.put, sA, sB, sC, i64_w, i32_w]
             rfl
            exact norm_ (by simp only [putAll, Act.put, sA, sB, sC]) (hCont (gb420) _ ⟨hHeld, (kr HO_5), (by (with_reducible repeat (first | apply mapMo.MS_alloc | apply mapMo.MS_drewN | apply mapMo.MS_drew)); exact HO_6.out), (bkp BK387), (bkp BK406), (bkp BK420), GW420.out, GE420.out, NB387_420.out, NB420_387.out, NB406_420.out, NB420_406.out, (bbw3 HB GE387 GE406 GE420)⟩)
           ·skip
            refine box_step ?hg (N := 10) ?hd (cs := #[.int .i64 0, .int .i64 0, .int .i64 0, .int .i64 0, .int .i64 0, .int .i64 0]) (t := 41) ?hr ?_; (case hd => rfl); (case hg => rfl); (case hr => first | (go_simp; done) | (go_simp; rfl))
            intro gb420 hg w32 hbox hb
            have HS9_ := hbc hb (hHeld.2.2.2.2.2.2.2.2.2.1)
            have HS10_ := hbc hb (hHeld.2.2.2.2.2.2.2.2.2.2.1)
            have HS11_ := hbc hb (hHeld.2.2.2.2.2.2.2.2.2.2.2.1)
            have HS12_ := hbc hb (hHeld.2.2.2.2.2.2.2.2.2.2.2.2.1)
            have HS13_ := hbc hb (hHeld.2.2.2.2.2.2.2.2.2.2.2.2.2.1)
            have HS14_ := hbc hb (hHeld.2.2.2.2.2.2.2.2.2.2.2.2.2.2)
            replace HO_5 := asd (Kd.R_below (Kd.R_elderB (kr HO_5) gb420 (Nat.le_of_eq hg.symm)) hb)
            replace HO_6 := asd (mapMo.MS_below (by (with_reducible repeat (first | apply mapMo.MS_alloc | apply mapMo.MS_drewN | apply mapMo.MS_drew)); exact HO_6.out) hb)
            have BK420 := asd (hbox)
            have GW420 := ngw2 hg HB GE387 GE406
            have GE420 := ngw2 hg HB GE387 GE406
            replace HB := bS2 HB GE387 GE406 hb
            have NB387_420 := nlt hg BK387
            have NB420_387 := nsy (nlt hg BK387)
            replace BK387 := bB BK387 hb
            have NB406_420 := nlt hg BK406
            have NB420_406 := nsy (nlt hg BK406)
            replace BK406 := bB BK406 hb
            clear hb hbox hg
            refine hK.out _ _ ⟨bcl BK387 0, bcl BK387 1, bcl BK387 2, bcl BK406 0, bcl BK406 1, bcl BK406 2, bcl BK406 3, bcl BK406 4, bcl BK406 5, HS9_, HS10_, HS11_, HS12_, HS13_, HS14_⟩ (fun hHeld => ?_)
            clear hK K
            refine norm_ (a' := ?_) ?_ ?_
            rotate_left
            ·show Act.put _ (some 10) _ = _
             simp only [Act.put, sA, sB, sC, i64_w, i32_w]
             rfl
            refine ro 7 (some 38) (bT 10 9) HT_ (fun K hK => ?_)
            refine gs Try.func23 #[.agg #[.int .i64 a0_0, .int .i64 a0_1, .int .i64 a0_2], .agg #[.int .i64 t408, .int .i64 t409, .int .i64 t410, .int .i64 t411, .int .i64 t412, .int .i64 t413]] ?_
            with_reducible refine (impl_Lattice_reduceMotion.calls _ _ _ _ _ _ _ _ _ _ _ _ _ _ _ _ A22.out).mono ?_
            rintro e w33 ⟨rfl, hb⟩
            have HS9_ := hbc hb (hHeld.2.2.2.2.2.2.2.2.2.1)
            have HS10_ := hbc hb (hHeld.2.2.2.2.2.2.2.2.2.2.1)
            have HS11_ := hbc hb (hHeld.2.2.2.2.2.2.2.2.2.2.2.1)
            have HS12_ := hbc hb (hHeld.2.2.2.2.2.2.2.2.2.2.2.2.1)
            have HS13_ := hbc hb (hHeld.2.2.2.2.2.2.2.2.2.2.2.2.2.1)
            have HS14_ := hbc hb (hHeld.2.2.2.2.2.2.2.2.2.2.2.2.2.2)
            refine ⟨_, rfl, ?_⟩
            replace HO_5 := asd (Kd.R_below (kr HO_5) hb)
            replace HO_6 := asd (mapMo.MS_below (by (with_reducible repeat (first | apply mapMo.MS_alloc | apply mapMo.MS_drewN | apply mapMo.MS_drew)); exact HO_6.out) hb)
            replace BK387 := bB BK387 hb
            replace BK406 := bB BK406 hb
            replace BK420 := bB BK420 hb
            replace HB := bS3 HB GE387 GE406 GE420 hb
            (try clear hb)
            (try clear hb2)
            (try clear hk)
            (try clear hi)
            refine hK.out _ _ ⟨bcl BK387 0, bcl BK387 1, bcl BK387 2, bcl BK406 0, bcl BK406 1, bcl BK406 2, bcl BK406 3, bcl BK406 4, bcl BK406 5, HS9_, HS10_, HS11_, HS12_, HS13_, HS14_⟩ (fun hHeld => ?_)
            clear hK K
            refine norm_ (a' := ?_) ?_ ?_
            rotate_left
            ·show Act.put _ (some 38) _ = _
             simp only [Act.put, sA, sB, sC, i64_w, i32_w]
             rfl
            exact norm_ (by simp only [putAll, Act.put, sA, sB, sC]) (hCont (gb420) _ ⟨hHeld, (kr HO_5), (by (with_reducible repeat (first | apply mapMo.MS_alloc | apply mapMo.MS_drewN | apply mapMo.MS_drew)); exact HO_6.out), (bkp BK387), (bkp BK406), (bkp BK420), GW420.out, GE420.out, NB387_420.out, NB420_387.out, NB406_420.out, NB420_406.out, (bbw3 HB GE387 GE406 GE420)⟩)
          ·skip
           refine box_step ?hg (N := 10) ?hd (cs := #[.int .i64 0, .int .i64 0, .int .i64 0, .int .i64 0, .int .i64 0, .int .i64 0]) (t := 41) ?hr ?_; (case hd => rfl); (case hg => rfl); (case hr => first | (go_simp; done) | (go_simp; rfl))
           intro gb420 hg w31 hbox hb
           have HS9_ := hbc hb (hHeld.2.2.2.2.2.2.2.2.2.1)
           have HS10_ := hbc hb (hHeld.2.2.2.2.2.2.2.2.2.2.1)
           have HS11_ := hbc hb (hHeld.2.2.2.2.2.2.2.2.2.2.2.1)
           have HS12_ := hbc hb (hHeld.2.2.2.2.2.2.2.2.2.2.2.2.1)
           have HS13_ := hbc hb (hHeld.2.2.2.2.2.2.2.2.2.2.2.2.2.1)
           have HS14_ := hbc hb (hHeld.2.2.2.2.2.2.2.2.2.2.2.2.2.2)
           replace HO_5 := asd (Kd.R_below (Kd.R_elderB (kr HO_5) gb420 (Nat.le_of_eq hg.symm)) hb)
           replace HO_6 := asd (mapMo.MS_below (by (with_reducible repeat (first | apply mapMo.MS_alloc | apply mapMo.MS_drewN | apply mapMo.MS_drew)); exact HO_6.out) hb)
           have BK420 := asd (hbox)
           have GW420 := ngw2 hg HB GE387 GE406
           have GE420 := ngw2 hg HB GE387 GE406
           replace HB := bS2 HB GE387 GE406 hb
           have NB387_420 := nlt hg BK387
           have NB420_387 := nsy (nlt hg BK387)
           replace BK387 := bB BK387 hb
           have NB406_420 := nlt hg BK406
           have NB420_406 := nsy (nlt hg BK406)
           replace BK406 := bB BK406 hb
           clear hb hbox hg
           refine hK.out _ _ ⟨bcl BK387 0, bcl BK387 1, bcl BK387 2, bcl BK406 0, bcl BK406 1, bcl BK406 2, bcl BK406 3, bcl BK406 4, bcl BK406 5, HS9_, HS10_, HS11_, HS12_, HS13_, HS14_⟩ (fun hHeld => ?_)
           clear hK K
           refine norm_ (a' := ?_) ?_ ?_
           rotate_left
           ·show Act.put _ (some 10) _ = _
            simp only [Act.put, sA, sB, sC, i64_w, i32_w]
            rfl
           refine ro 6 (some 37) (bs 10 383) HT_ (fun K hK => ?_)
           refine gs Try.func24 #[.agg #[.int .i64 ((rd_T41 l1 x27_2).f0.f0), .int .i64 ((rd_T41 l1 x27_2).f0.f1), .int .i64 ((rd_T41 l1 x27_2).f0.f2), .int .i64 ((rd_T41 l1 x27_2).f0.f3), .int .i64 ((rd_T41 l1 x27_2).f1.f0), .int .i64 ((rd_T41 l1 x27_2).f1.f1)], .agg #[.int .i64 ((rd_T41 x5_2 x7_1).f0.f0), .int .i64 ((rd_T41 x5_2 x7_1).f0.f1), .int .i64 ((rd_T41 x5_2 x7_1).f0.f2), .int .i64 ((rd_T41 x5_2 x7_1).f0.f3), .int .i64 ((rd_T41 x5_2 x7_1).f1.f0), .int .i64 ((rd_T41 x5_2 x7_1).f1.f1)]] ?_
           with_reducible refine (impl_Motion_times.calls _ _ _ _ _ _ _ _ _ _ _ _ _ _ _ _ _ _ _ A21.out).mono ?_
           rintro e w32 ⟨rfl, hb⟩
           have HS9_ := hbc hb (hHeld.2.2.2.2.2.2.2.2.2.1)
           have HS10_ := hbc hb (hHeld.2.2.2.2.2.2.2.2.2.2.1)
           have HS11_ := hbc hb (hHeld.2.2.2.2.2.2.2.2.2.2.2.1)
           have HS12_ := hbc hb (hHeld.2.2.2.2.2.2.2.2.2.2.2.2.1)
           have HS13_ := hbc hb (hHeld.2.2.2.2.2.2.2.2.2.2.2.2.2.1)
           have HS14_ := hbc hb (hHeld.2.2.2.2.2.2.2.2.2.2.2.2.2.2)
           refine ⟨_, rfl, ?_⟩
           replace HO_5 := asd (Kd.R_below (kr HO_5) hb)
           replace HO_6 := asd (mapMo.MS_below (by (with_reducible repeat (first | apply mapMo.MS_alloc | apply mapMo.MS_drewN | apply mapMo.MS_drew)); exact HO_6.out) hb)
           replace BK387 := bB BK387 hb
           replace BK406 := bB BK406 hb
           replace BK420 := bB BK420 hb
           replace HB := bS3 HB GE387 GE406 GE420 hb
           (try clear hb)
           (try clear hb2)
           (try clear hk)
           (try clear hi)
           refine hK.out _ _ ⟨bcl BK387 0, bcl BK387 1, bcl BK387 2, bcl BK406 0, bcl BK406 1, bcl BK406 2, bcl BK406 3, bcl BK406 4, bcl BK406 5, HS9_, HS10_, HS11_, HS12_, HS13_, HS14_⟩ (fun hHeld => ?_)
           clear hK K
           refine norm_ (a' := ?_) ?_ ?_
           rotate_left
           ·show Act.put _ (some 37) _ = _
            simp only [Act.put, sA, sB, sC, i64_w, i32_w]
            rfl
           refine ro 7 (some 38) (bT 10 9) HT_ (fun K hK => ?_)
           refine gs Try.func23 #[.agg #[.int .i64 a0_0, .int .i64 a0_1, .int .i64 a0_2], .agg #[.int .i64 t408, .int .i64 t409, .int .i64 t410, .int .i64 t411, .int .i64 t412, .int .i64 t413]] ?_
           with_reducible refine (impl_Lattice_reduceMotion.calls _ _ _ _ _ _ _ _ _ _ _ _ _ _ _ _ A22.out).mono ?_
           rintro e w33 ⟨rfl, hb⟩
           have HS9_ := hbc hb (hHeld.2.2.2.2.2.2.2.2.2.1)
           have HS10_ := hbc hb (hHeld.2.2.2.2.2.2.2.2.2.2.1)
           have HS11_ := hbc hb (hHeld.2.2.2.2.2.2.2.2.2.2.2.1)
           have HS12_ := hbc hb (hHeld.2.2.2.2.2.2.2.2.2.2.2.2.1)
           have HS13_ := hbc hb (hHeld.2.2.2.2.2.2.2.2.2.2.2.2.2.1)
           have HS14_ := hbc hb (hHeld.2.2.2.2.2.2.2.2.2.2.2.2.2.2)
           refine ⟨_, rfl, ?_⟩
           replace HO_5 := asd (Kd.R_below (kr HO_5) hb)
           replace HO_6 := asd (mapMo.MS_below (by (with_reducible repeat (first | apply mapMo.MS_alloc | apply mapMo.MS_drewN | apply mapMo.MS_drew)); exact HO_6.out) hb)
           replace BK387 := bB BK387 hb
           replace BK406 := bB BK406 hb
           replace BK420 := bB BK420 hb
           replace HB := bS3 HB GE387 GE406 GE420 hb
           (try clear hb)
           (try clear hb2)
           (try clear hk)
           (try clear hi)
           refine hK.out _ _ ⟨bcl BK387 0, bcl BK387 1, bcl BK387 2, bcl BK406 0, bcl BK406 1, bcl BK406 2, bcl BK406 3, bcl BK406 4, bcl BK406 5, HS9_, HS10_, HS11_, HS12_, HS13_, HS14_⟩ (fun hHeld => ?_)
           clear hK K
           refine norm_ (a' := ?_) ?_ ?_
           rotate_left
           ·show Act.put _ (some 38) _ = _
            simp only [Act.put, sA, sB, sC, i64_w, i32_w]
            rfl
           exact norm_ (by simp only [putAll, Act.put, sA, sB, sC]) (hCont (gb420) _ ⟨hHeld, (kr HO_5), (by (with_reducible repeat (first | apply mapMo.MS_alloc | apply mapMo.MS_drewN | apply mapMo.MS_drew)); exact HO_6.out), (bkp BK387), (bkp BK406), (bkp BK420), GW420.out, GE420.out, NB387_420.out, NB420_387.out, NB406_420.out, NB420_406.out, (bbw3 HB GE387 GE406 GE420)⟩)
         rintro gb420 w34 ⟨hS_, h0_, h1_, h2_, h3_, h4_, h5_, h6_, h7_, h8_, h9_, h10_, h11_⟩
         have n0_ : Aside0 (Kd.R k41 41 w34 w.heap.size (fun k_ => k_ ≠ gb406 ∧ k_ ≠ gb420) (.slice (some ad407) x5_2.length co30) x5_2) := ⟨h0_⟩
         have n1_ : Aside0 (mapMo.MS w34 gbM x6_2) := ⟨h1_⟩
         have n2_ : Aside0 (w34.heap[gb387]? = some (.cells #[.int .i64 a0_0, .int .i64 a0_1, .int .i64 a0_2] 23 (0, 0))) := ⟨h2_⟩
         have n3_ : Aside0 (w34.heap[gb406]? = some (.cells #[.int .i64 ((rd_T41 l1 x27_2).f0.f0), .int .i64 ((rd_T41 l1 x27_2).f0.f1), .int .i64 ((rd_T41 l1 x27_2).f0.f2), .int .i64 ((rd_T41 l1 x27_2).f0.f3), .int .i64 ((rd_T41 l1 x27_2).f1.f0), .int .i64 ((rd_T41 l1 x27_2).f1.f1)] 41 (0, 0))) := ⟨h3_⟩
         have n4_ : Aside0 (w34.heap[gb420]? = some (.cells #[.int .i64 0, .int .i64 0, .int .i64 0, .int .i64 0, .int .i64 0, .int .i64 0] 41 (0, 0))) := ⟨h4_⟩
         have n5_ : Aside0 (w.heap.size ≤ gb420) := ⟨h5_⟩
         have n6_ : Aside0 (w.heap.size ≤ gb420) := ⟨h6_⟩
         have n7_ : Aside0 (gb387 ≠ gb420) := ⟨h7_⟩
         have n8_ : Aside0 (gb420 ≠ gb387) := ⟨h8_⟩
         have n9_ : Aside0 (gb406 ≠ gb420) := ⟨h9_⟩
         have n10_ : Aside0 (gb420 ≠ gb406) := ⟨h10_⟩
         have n11_ : Aside0 (Below w.heap.size w w34) := ⟨h11_⟩
         clear HO_5
         clear HO_6
         clear BK387
         clear BK406
         clear HB
         clear h0_ h1_ h2_ h3_ h4_ h5_ h6_ h7_ h8_ h9_ h10_ h11_
         have HO_5 := n0_
         have HO_6 := n1_
         have BK387 := n2_
         have BK406 := n3_
         have BK420 := n4_
         have GW420 := n5_
         have GE420 := n6_
         have NB387_420 := n7_
         have NB420_387 := n8_
         have NB406_420 := n9_
         have NB420_406 := n10_
         have HB := n11_
         clear n0_ n1_ n2_ n3_ n4_ n5_ n6_ n7_ n8_ n9_ n10_ n11_
         have hHeld : w34.cell? ⟨gb387, 0, none⟩ = some (.int .i64 a0_0) ∧ w34.cell? ⟨gb387, 1, none⟩ = some (.int .i64 a0_1) ∧ w34.cell? ⟨gb387, 2, none⟩ = some (.int .i64 a0_2) ∧ w34.cell? ⟨gb406, 0, none⟩ = some (.int .i64 ((rd_T41 l1 x27_2).f0.f0)) ∧ w34.cell? ⟨gb406, 1, none⟩ = some (.int .i64 ((rd_T41 l1 x27_2).f0.f1)) ∧ w34.cell? ⟨gb406, 2, none⟩ = some (.int .i64 ((rd_T41 l1 x27_2).f0.f2)) ∧ w34.cell? ⟨gb406, 3, none⟩ = some (.int .i64 ((rd_T41 l1 x27_2).f0.f3)) ∧ w34.cell? ⟨gb406, 4, none⟩ = some (.int .i64 ((rd_T41 l1 x27_2).f1.f0)) ∧ w34.cell? ⟨gb406, 5, none⟩ = some (.int .i64 ((rd_T41 l1 x27_2).f1.f1)) ∧ w34.cell? (ad407.add ((x7_1).toNat * 6)) = some (.int .i64 ((rd_T41 x5_2 x7_1).f0.f0)) ∧ w34.cell? ⟨(ad407.add ((x7_1).toNat * 6)).block, (ad407.add ((x7_1).toNat * 6)).off + 1, none⟩ = some (.int .i64 ((rd_T41 x5_2 x7_1).f0.f1)) ∧ w34.cell? ⟨(ad407.add ((x7_1).toNat * 6)).block, (ad407.add ((x7_1).toNat * 6)).off + 2, none⟩ = some (.int .i64 ((rd_T41 x5_2 x7_1).f0.f2)) ∧ w34.cell? ⟨(ad407.add ((x7_1).toNat * 6)).block, (ad407.add ((x7_1).toNat * 6)).off + 3, none⟩ = some (.int .i64 ((rd_T41 x5_2 x7_1).f0.f3)) ∧ w34.cell? ⟨(ad407.add ((x7_1).toNat * 6)).block, (ad407.add ((x7_1).toNat * 6)).off + 4, none⟩ = some (.int .i64 ((rd_T41 x5_2 x7_1).f1.f0)) ∧ w34.cell? ⟨(ad407.add ((x7_1).toNat * 6)).block, (ad407.add ((x7_1).toNat * 6)).off + 5, none⟩ = some (.int .i64 ((rd_T41 x5_2 x7_1).f1.f1)) := hS_
         refine norm_ (a' := ?_) ?_ ?_
         rotate_left
         ·simp only [putAll, Act.put, sA, sB, sC]
          rfl
         refine ro 9 (none) (bT 10 10) HT_ (fun K hK => ?_)
         have hs35 : w34.cell? ⟨gb420, 0, none⟩ = some (.int .i64 0) := bcl BK420 0
         have hfs35 := blk_frozen BK420.out 0
         have hns35_0 := NB387_420.out
         have hns35_1 := NB406_420.out
         have hms35_0 := NB420_387.out
         have hms35_1 := NB420_406.out
         have hs36 : w34.cell? ⟨gb420, 1, none⟩ = some (.int .i64 0) := bcl BK420 1
         have hfs36 := blk_frozen BK420.out 1
         have hns36_0 := NB387_420.out
         have hns36_1 := NB406_420.out
         have hms36_0 := NB420_387.out
         have hms36_1 := NB420_406.out
         have hs37 : w34.cell? ⟨gb420, 2, none⟩ = some (.int .i64 0) := bcl BK420 2
         have hfs37 := blk_frozen BK420.out 2
         have hns37_0 := NB387_420.out
         have hns37_1 := NB406_420.out
         have hms37_0 := NB420_387.out
         have hms37_1 := NB420_406.out
         have hs38 : w34.cell? ⟨gb420, 3, none⟩ = some (.int .i64 0) := bcl BK420 3
         have hfs38 := blk_frozen BK420.out 3
         have hns38_0 := NB387_420.out
         have hns38_1 := NB406_420.out
         have hms38_0 := NB420_387.out
         have hms38_1 := NB420_406.out
         have hs39 : w34.cell? ⟨gb420, 4, none⟩ = some (.int .i64 0) := bcl BK420 4
         have hfs39 := blk_frozen BK420.out 4
         have hns39_0 := NB387_420.out
         have hns39_1 := NB406_420.out
         have hms39_0 := NB420_387.out
         have hms39_1 := NB420_406.out
         have hs40 : w34.cell? ⟨gb420, 5, none⟩ = some (.int .i64 0) := bcl BK420 5
         have hfs40 := blk_frozen BK420.out 5
         have hns40_0 := NB387_420.out
         have hns40_1 := NB406_420.out
         have hms40_0 := NB420_387.out
         have hms40_1 := NB420_406.out
         refine skip_ (w1 := ?_) (by rfl) rfl ?_ ?_
         rotate_left
         ·go_simp
          rfl
         refine hK.out _ _ ⟨(cf6 NB387_420 (hHeld.1)), (cf6 NB387_420 (hHeld.2.1)), (cf6 NB387_420 (hHeld.2.2.1)), (cf6 NB406_420 (hHeld.2.2.2.1)), (cf6 NB406_420 (hHeld.2.2.2.2.1)), (cf6 NB406_420 (hHeld.2.2.2.2.2.1)), (cf6 NB406_420 (hHeld.2.2.2.2.2.2.1)), (cf6 NB406_420 (hHeld.2.2.2.2.2.2.2.1)), (cf6 NB406_420 (hHeld.2.2.2.2.2.2.2.2.1)), (fx6 (Kd.own_blk (Kd.R_away HO_5.out (fun _ hk => hk.2))) (hHeld.2.2.2.2.2.2.2.2.2.1)), (fx6 (Kd.own_blk (Kd.R_away HO_5.out (fun _ hk => hk.2))) (hHeld.2.2.2.2.2.2.2.2.2.2.1)), (fx6 (Kd.own_blk (Kd.R_away HO_5.out (fun _ hk => hk.2))) (hHeld.2.2.2.2.2.2.2.2.2.2.2.1)), (fx6 (Kd.own_blk (Kd.R_away HO_5.out (fun _ hk => hk.2))) (hHeld.2.2.2.2.2.2.2.2.2.2.2.2.1)), (fx6 (Kd.own_blk (Kd.R_away HO_5.out (fun _ hk => hk.2))) (hHeld.2.2.2.2.2.2.2.2.2.2.2.2.2.1)), (fx6 (Kd.own_blk (Kd.R_away HO_5.out (fun _ hk => hk.2))) (hHeld.2.2.2.2.2.2.2.2.2.2.2.2.2.2))⟩ (fun hHeld => ?_)
         clear hK K
         refine done_ (done_of HT_.out (by kernel_rfl)) ?_
         have hnb41 := NB420_387.out
         have hnc41 := NB387_420.out
         have hnb42 := NB420_406.out
         have hnc42 := NB406_420.out
         obtain ⟨hcz43_0, hcz43_1, hcz43_2, hcz43_3, hcz43_4, hcz43_5, hfz43_0, hfz43_1, hfz43_2, hfz43_3, hfz43_4, hfz43_5⟩ := bz6 BK420
        focus try go_wp2_with (first | (at_lookup; refine mapMo.get_call A23.out rfl _ _ rfl rfl (by have qBK420_ := mapMo.MS_ne HO_6.out BK420.out; repeat (first | (with_reducible first | exact HO_6.out | refine mapMo.MS_set ?_ qBK420_ | apply mapMo.MS_alloc | apply mapMo.MS_drewN | apply mapMo.MS_drew) | exact HO_6.out)) rfl ?_; intro w45 hb; have hms_ : mapMo.MS w45 gbM x6_2 := mapMo.MS_below (by exact (by have q_ := mapMo.MS_ne HO_6.out BK420.out; repeat (first | (with_reducible first | exact HO_6.out | refine mapMo.MS_set ?_ q_ | apply mapMo.MS_alloc | apply mapMo.MS_drewN | apply mapMo.MS_drew) | exact HO_6.out))) hb; replace HO_5 := asd (Kd.R_below (by (with_reducible repeat (first | apply Kd.R_alloc | apply Kd.R_drewN | apply Kd.R_drew)); exact (Kd.R_mono (rw6 (Kd.R_mono HO_5.out (fun k_ hk => (⟨hk, hk.2⟩ : _ ∧ k_ ≠ gb420)))) (fun _ h_ => h_.1))) hb); replace HO_6 := asd (hms_); replace BK387 := asd (blk_below (g := gb387) (o := .cells #[.int .i64 a0_0, .int .i64 a0_1, .int .i64 a0_2] 23 (0, 0)) (bq1 BK387 NB387_420) hb); replace BK406 := asd (blk_below (g := gb406) (o := .cells #[.int .i64 ((rd_T41 l1 x27_2).f0.f0), .int .i64 ((rd_T41 l1 x27_2).f0.f1), .int .i64 ((rd_T41 l1 x27_2).f0.f2), .int .i64 ((rd_T41 l1 x27_2).f0.f3), .int .i64 ((rd_T41 l1 x27_2).f1.f0), .int .i64 ((rd_T41 l1 x27_2).f1.f1)] 41 (0, 0)) (bq1 BK406 NB406_420) hb); replace BK420 := asd (blk_below (g := gb420) (o := .cells #[.int .i64 t414, .int .i64 t415, .int .i64 t416, .int .i64 t417, .int .i64 t418, .int .i64 t419] 41 (0, 0)) (bq0 BK420) hb); replace HB := bS3 HB GE387 GE406 GE420 hb; (try clear hms_); (try clear hb); (try clear hb2); (try clear hk); (try clear hi)))
        rotate_left
        focus try go_wp2_with (first | (at_lookup; refine mapMo.get_call A23.out rfl _ _ rfl rfl (by have qBK420_ := mapMo.MS_ne HO_6.out BK420.out; repeat (first | (with_reducible first | exact HO_6.out | refine mapMo.MS_set ?_ qBK420_ | apply mapMo.MS_alloc | apply mapMo.MS_drewN | apply mapMo.MS_drew) | exact HO_6.out)) rfl ?_; intro w68 hb; have hms_ : mapMo.MS w68 gbM x6_2 := mapMo.MS_below (by exact (by have q_ := mapMo.MS_ne HO_6.out BK420.out; repeat (first | (with_reducible first | exact HO_6.out | refine mapMo.MS_set ?_ q_ | apply mapMo.MS_alloc | apply mapMo.MS_drewN | apply mapMo.MS_drew) | exact HO_6.out))) hb; replace HO_5 := asd (Kd.R_below (by (with_reducible repeat (first | apply Kd.R_alloc | apply Kd.R_drewN | apply Kd.R_drew)); exact (Kd.R_mono (rw6 (Kd.R_mono HO_5.out (fun k_ hk => (⟨hk, hk.2⟩ : _ ∧ k_ ≠ gb420)))) (fun _ h_ => h_.1))) hb); replace HO_6 := asd (hms_); replace BK387 := asd (blk_below (g := gb387) (o := .cells #[.int .i64 a0_0, .int .i64 a0_1, .int .i64 a0_2] 23 (0, 0)) (bq1 BK387 NB387_420) hb); replace BK406 := asd (blk_below (g := gb406) (o := .cells #[.int .i64 ((rd_T41 l1 x27_2).f0.f0), .int .i64 ((rd_T41 l1 x27_2).f0.f1), .int .i64 ((rd_T41 l1 x27_2).f0.f2), .int .i64 ((rd_T41 l1 x27_2).f0.f3), .int .i64 ((rd_T41 l1 x27_2).f1.f0), .int .i64 ((rd_T41 l1 x27_2).f1.f1)] 41 (0, 0)) (bq1 BK406 NB406_420) hb); replace BK420 := asd (blk_below (g := gb420) (o := .cells #[.int .i64 t414, .int .i64 t415, .int .i64 t416, .int .i64 t417, .int .i64 t418, .int .i64 t419] 41 (0, 0)) (bq0 BK420) hb); replace HB := bS3 HB GE387 GE406 GE420 hb; (try clear hms_); (try clear hb); (try clear hb2); (try clear hk); (try clear hi); obtain ⟨hcz69_0, hcz69_1, hcz69_2, hcz69_3, hcz69_4, hcz69_5, hfz69_0, hfz69_1, hfz69_2, hfz69_3, hfz69_4, hfz69_5⟩ := bz6 BK420) | (at_mapUpdate; refine mapMo.put_event rfl _ _ _ rfl rfl (by (with_reducible repeat (first | apply mapMo.MS_alloc | apply mapMo.MS_drewN | apply mapMo.MS_drew)); exact HO_6.out) (⟨(⟨t414, t415, t416, t417⟩ : S37), (⟨t418, t419⟩ : S39)⟩ : S41) rfl rfl LMc46.out.2 LMc46.out.1 ?_; intro w70 ho hg; rw [← Ny422.out] at ho; have hb : Below w.heap.size w w70 := mapMo.below_put (bbw3 HB GE387 GE406 GE420) GEM.out hg; have n0_ := asd (mapMo.R_map (kr HO_5) (by (with_reducible repeat (first | apply mapMo.MS_alloc | apply mapMo.MS_drewN | apply mapMo.MS_drew)); exact HO_6.out) hg); have n1_ := asd (mapMo.blk_put (g := gb387) (cs := #[.int .i64 a0_0, .int .i64 a0_1, .int .i64 a0_2]) (t := 23) (bkp BK387) (by (with_reducible repeat (first | apply mapMo.MS_alloc | apply mapMo.MS_drewN | apply mapMo.MS_drew)); exact HO_6.out) hg); have n2_ := asd (mapMo.blk_put (g := gb406) (cs := #[.int .i64 ((rd_T41 l1 x27_2).f0.f0), .int .i64 ((rd_T41 l1 x27_2).f0.f1), .int .i64 ((rd_T41 l1 x27_2).f0.f2), .int .i64 ((rd_T41 l1 x27_2).f0.f3), .int .i64 ((rd_T41 l1 x27_2).f1.f0), .int .i64 ((rd_T41 l1 x27_2).f1.f1)]) (t := 41) (bkp BK406) (by (with_reducible repeat (first | apply mapMo.MS_alloc | apply mapMo.MS_drewN | apply mapMo.MS_drew)); exact HO_6.out) hg); have n3_ := asd (mapMo.blk_put (g := gb420) (cs := #[.int .i64 t414, .int .i64 t415, .int .i64 t416, .int .i64 t417, .int .i64 t418, .int .i64 t419]) (t := 41) (bkp BK420) (by (with_reducible repeat (first | apply mapMo.MS_alloc | apply mapMo.MS_drewN | apply mapMo.MS_drew)); exact HO_6.out) hg); have n4_ := asd (hb); have n5_ := asd (ho); clear HO_5; clear BK387; clear BK406; clear BK420; clear HB; clear HO_6; have HO_5 := n0_; have BK387 := n1_; have BK406 := n2_; have BK420 := n3_; have HB := n4_; have HO424 := n5_; clear n0_ n1_ n2_ n3_ n4_ n5_; clear ho hb hg; obtain ⟨hcz71_0, hcz71_1, hcz71_2, hcz71_3, hcz71_4, hcz71_5, hfz71_0, hfz71_1, hfz71_2, hfz71_3, hfz71_4, hfz71_5⟩ := bz6 BK420) | ((with_reducible refine gate_builtin (b := .append) (xs := #[.tmp 45, .tmp 47]) rfl ?_); at_builtin; refine Kd.R_append k41 (w0 := w) w.heap.size rfl (.tmp 45) (.tmp 47) 24 41 (.agg #[(.int .i64 0), (.int .i64 0), (.int .i64 0), (.int .i64 0), (.int .i64 0), (.int .i64 0)]) 48 rfl Try.underlying24 info41 rfl (by decide) (by omega) (.slice (some ad407) x5_2.length co30) x5_2 (⟨(⟨t414, t415, t416, t417⟩ : S37), (⟨t418, t419⟩ : S39)⟩ : S41) [.int .i64 t414, .int .i64 t415, .int .i64 t416, .int .i64 t417, .int .i64 t418, .int .i64 t419] (fun k_ => k_ ≠ gb406 ∧ k_ ≠ gb420) (fun _ => False) rfl rfl ?aP (fun _ hk => hk.elim) ?aF ?aO ?aB ?aS ?aL ?_; (case aP => exact k41_mkM _ _ _ (⟨(⟨t414, t415, t416, t417⟩ : S37), (⟨t418, t419⟩ : S39)⟩ : S41)); (case aB => exact (bbw3 HB GE387 GE406 GE420)); (case aF => exact (fun k_ hk => ⟨Kd.freshB (g := gb406) (o := .cells #[.int .i64 ((rd_T41 l1 x27_2).f0.f0), .int .i64 ((rd_T41 l1 x27_2).f0.f1), .int .i64 ((rd_T41 l1 x27_2).f0.f2), .int .i64 ((rd_T41 l1 x27_2).f0.f3), .int .i64 ((rd_T41 l1 x27_2).f1.f0), .int .i64 ((rd_T41 l1 x27_2).f1.f1)] 41 (0, 0)) (bkp BK406) k_ hk, Kd.freshB (g := gb420) (o := .cells #[.int .i64 t414, .int .i64 t415, .int .i64 t416, .int .i64 t417, .int .i64 t418, .int .i64 t419] 41 (0, 0)) (bkp BK420) k_ hk⟩)); (case aO => exact (kr HO_5)); (case aS => exact (bsz3 HB GE387 GE406 GE420)); (case aL => have := LMc47.out; omega); intro v426 w72 ho hb hg hat; rw [← Ny425.out] at ho; have n0_ := asd (blk_grown (g := gb387) (o := .cells #[.int .i64 a0_0, .int .i64 a0_1, .int .i64 a0_2] 23 (0, 0)) (bkp BK387) hg (Kd.R_ne HO_5.out BK387.out (by decide))); have n1_ := asd (blk_grown (g := gb406) (o := .cells #[.int .i64 ((rd_T41 l1 x27_2).f0.f0), .int .i64 ((rd_T41 l1 x27_2).f0.f1), .int .i64 ((rd_T41 l1 x27_2).f0.f2), .int .i64 ((rd_T41 l1 x27_2).f0.f3), .int .i64 ((rd_T41 l1 x27_2).f1.f0), .int .i64 ((rd_T41 l1 x27_2).f1.f1)] 41 (0, 0)) (bkp BK406) hg (Kd.R_away HO_5.out (fun _ hk => hk.1))); have n2_ := asd (blk_grown (g := gb420) (o := .cells #[.int .i64 t414, .int .i64 t415, .int .i64 t416, .int .i64 t417, .int .i64 t418, .int .i64 t419] 41 (0, 0)) (bkp BK420) hg (Kd.R_away HO_5.out (fun _ hk => hk.2))); have n3_ := asd (mapMo.MS_over (by (with_reducible repeat (first | apply mapMo.MS_alloc | apply mapMo.MS_drewN | apply mapMo.MS_drew)); exact HO424.out) (Kd.R_typed (kr HO_5)) hg); have n4_ := asd (hb); have n5_ := asd (ho); clear BK387; clear BK406; clear BK420; clear HO424; clear HB; clear HO_5; have BK387 := n0_; have BK406 := n1_; have BK420 := n2_; have HO424 := n3_; have HB := n4_; have HO427 := n5_; clear n0_ n1_ n2_ n3_ n4_ n5_; clear ho hb hg hat))
        rotate_left
        all_goals
         go_roundg k2
         case measure => have := HK1.out; have := HK2.out; omega
        ·case rel => exact ⟨(x5_2), (x6_2), (wrap64 (x27_2 + 1)), (by first | rfl | (simp; done) | (simp [*]; done)), H', ⟨by have := HK1.out; have := HK2.out; omega⟩, ⟨by (with_reducible repeat (first | apply Kd.R_alloc | apply Kd.R_drewN | apply Kd.R_drew)); exact Kd.R_mono HO_5.out (fun _ hk => trivial)⟩, ⟨by (with_reducible repeat (first | apply mapMo.MS_alloc | apply mapMo.MS_drewN | apply mapMo.MS_drew)); exact HO_6.out⟩, ⟨bkp BK387⟩, ⟨bbw3 HB GE387 GE406 GE420⟩⟩
        ·case rel => exact ⟨(y425), (y422), (wrap64 (x27_2 + 1)), (by first | rfl | (simp; done) | (simp [*]; done)), H', ⟨by have := HK1.out; have := HK2.out; omega⟩, ⟨by (with_reducible repeat (first | apply Kd.R_alloc | apply Kd.R_drewN | apply Kd.R_drew)); exact Kd.R_mono HO427.out (fun _ hk => trivial)⟩, ⟨by (with_reducible repeat (first | apply mapMo.MS_alloc | apply mapMo.MS_drewN | apply mapMo.MS_drew)); exact HO424.out⟩, ⟨bkp BK387⟩, ⟨bbw3 HB GE387 GE406 GE420⟩⟩
     ·rw [if_neg c14] at H
      have c14b0 := decide_eq_false c14
      clear c14
      by_cases c73 : x5_1.length < 2932031007402
      ·rw [if_pos c73] at H
       have LMc73 := Aside0.mk c73
       clear c73
       obtain ⟨y402, hy402⟩ : ∃ y_ : List (S41), y_ = (impl_Motion.srtMo x5_1) := ⟨_, rfl⟩
       replace H : (some y402) = some r := by first | (rw [hy402]; with_reducible exact H) | (have H2_ := (Option.bind_some _ _).symm.trans H; rw [hy402]; with_reducible exact H2_) | (have H2_ := (Option.bind_some _ _).symm.trans H; with_reducible exact H2_) | with_reducible exact H | (rw [hy402]; exact H) | exact H
       have Ny402 := Aside0.mk hy402
       clear hy402
       obtain rfl := Option.some.inj H
       obtain ⟨Ao74, co74, eo74⟩ := Kd.R_slice HO_5.out
       subst eo74
       go_wp2_with (first | (go_at_call 25; refine (impl_Motion.sortR (base := w.heap.size) (ok := (fun _ => True)) (xs := x5_1) ?aO ?aL).mono ?_; (case aO => exact (kr HO_5)); (case aL => have := LMc73.out; omega); rintro e w75 ⟨rfl, ho, hg⟩; have hb : Below w.heap.size w w75 := Below.grown ((bbw1 HB GE387)) hg ((bsz1 HB GE387)) (fun k_ hk_ => ((Kd.R_bound ho).1 k_ hk_).2.1); have hat := trivial; rw [← Ny402.out] at ho; have n0_ := asd (mapMo.MS_over (by (with_reducible repeat (first | apply mapMo.MS_alloc | apply mapMo.MS_drewN | apply mapMo.MS_drew)); exact HO_6.out) (Kd.R_typed (kr HO_5)) hg); have n1_ := asd (blk_grown (g := gb387) (o := .cells #[.int .i64 a0_0, .int .i64 a0_1, .int .i64 a0_2] 23 (0, 0)) (bkp BK387) hg (Kd.R_ne HO_5.out BK387.out (by decide))); have n2_ := asd (hb); have n3_ := asd (ho); clear HO_6; clear BK387; clear HB; clear HO_5; have HO_6 := n0_; have BK387 := n1_; have HB := n2_; have HO404 := n3_; clear n0_ n1_ n2_ n3_; clear ho hb hg hat))
       go_ret
       exact ⟨_, by first | rfl | (simp [errW_none, errW_some] <;> rfl) | (simp [*, errW_none, errW_some] <;> rfl), by (with_reducible repeat (first | apply Kd.R_alloc | apply Kd.R_drewN | apply Kd.R_drew)); exact HO404.out, bbw1 HB GE387⟩
      ·rw [if_neg c73] at H
       exact absurd H (by simp)
  ·rw [if_neg c5] at H
   exact absurd H (by simp)
 ·rw [if_neg c4] at H
  exact absurd H (by simp)

end Go.Proofs.Ytdodghjnlekgeaa.PA
