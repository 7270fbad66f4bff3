/- Walks written by program: each Go function that the law reaches comes to the plain function beside it. -/
import Derived.Test.YtdodghjnlekgeaaPAx0
import Derived.Test.YtdodghjnlekgeaaPAx4
import Derived.Test.YtdodghjnlekgeaaPAx5
namespace Go.Proofs.Ytdodghjnlekgeaa.PA
open Go.RowKit Go.Proofs.YtdodghjnlekgeaaW.PrintWords Go.Proofs.YtdodghjnlekgeaaW.PrintLast Go.Proofs.YtdodghjnlekgeaaW.PrintMore
attribute [local go_sem] max2_int min2_int max_two min_two max_three min_three max_four min_four   -- for this text's walks alone
set_option linter.unusedVariables false
set_option linter.unusedSimpArgs false

/-! ### spec_l06Close: function 12 -/
mutual
def spec_l06Close.l0 : Nat → List (S41) → List (S41) → List (S41) → Int → Int → Int → Int → Option ((List (S41)))
 | 0, _, _, _, _, _, _, _ => none
 | k + 1, x1, x5, x6, x7, x223000, x223001, x223002 => if x7 < (x6.length : Int) then (spec_l06Close.l1 k x1 x5 x6 x7 0 x223000 x223001 x223002) else (some x5)
def spec_l06Close.l1 : Nat → List (S41) → List (S41) → List (S41) → Int → Int → Int → Int → Int → Option ((List (S41)))
 | 0, _, _, _, _, _, _, _, _ => none
 | k + 1, x1, x5, x6, x7, x8, x223000, x223001, x223002 => if x8 < (x1.length : Int) then (if 0 ≤ x8 then (if 0 ≤ x7 then (if x7 < (x6.length : Int) then ((spec_l05Compose.f ((rd_T41 x1 x8).f0.f0) ((rd_T41 x1 x8).f0.f1) ((rd_T41 x1 x8).f0.f2) ((rd_T41 x1 x8).f0.f3) ((rd_T41 x1 x8).f1.f0) ((rd_T41 x1 x8).f1.f1) ((rd_T41 x6 x7).f0.f0) ((rd_T41 x6 x7).f0.f1) ((rd_T41 x6 x7).f0.f2) ((rd_T41 x6 x7).f0.f3) ((rd_T41 x6 x7).f1.f0) ((rd_T41 x6 x7).f1.f1)).bind fun bt243 => ((spec_l06Reduce.f x223000 x223001 x223002 bt243.1 bt243.2.1 bt243.2.2.1 bt243.2.2.2.1 bt243.2.2.2.2.1 bt243.2.2.2.2.2).bind fun bt249 => ((spec_l06Has.f k x5 bt249.1 bt249.2.1 bt249.2.2.1 bt249.2.2.2.1 bt249.2.2.2.2.1 bt249.2.2.2.2.2).bind fun t256 => (if t256 = true then (spec_l06Close.l1 k x1 x5 x6 x7 (wrap64 (x8 + 1)) x223000 x223001 x223002) else (if (x5.length < 2932031007402 ∧ spec_l06Insert.ok x5 (⟨(⟨bt249.1, bt249.2.1, bt249.2.2.1, bt249.2.2.2.1⟩ : S37), (⟨bt249.2.2.2.2.1, bt249.2.2.2.2.2⟩ : S39)⟩ : S41) = true) then (if x6.length < 2932031007402 then (spec_l06Close.l1 k x1 (spec_l06Insert.ins x5 (⟨(⟨bt249.1, bt249.2.1, bt249.2.2.1, bt249.2.2.2.1⟩ : S37), (⟨bt249.2.2.2.2.1, bt249.2.2.2.2.2⟩ : S39)⟩ : S41)) (x6 ++ [(⟨(⟨bt249.1, bt249.2.1, bt249.2.2.1, bt249.2.2.2.1⟩ : S37), (⟨bt249.2.2.2.2.1, bt249.2.2.2.2.2⟩ : S39)⟩ : S41)]) x7 (wrap64 (x8 + 1)) x223000 x223001 x223002) else (none)) else (none)))))) else (none)) else (none)) else (none)) else (spec_l06Close.l0 k x1 x5 x6 (wrap64 (x7 + 1)) x223000 x223001 x223002)
end
def spec_l06Close.f (k : Nat) (a0_0 : Int) (a0_1 : Int) (a0_2 : Int) (l1 : List (S41)) : Option ((List (S41))) := (spec_l06Unit.f).bind fun bt223 => ((spec_l06Unit.f).bind fun bt232 => (spec_l06Close.l0 k l1 (([(⟨(⟨bt223.1, bt223.2.1, bt223.2.2.1, bt223.2.2.2.1⟩ : S37), (⟨bt223.2.2.2.2.1, bt223.2.2.2.2.2⟩ : S39)⟩ : S41)] : List (S41))) (([(⟨(⟨bt232.1, bt232.2.1, bt232.2.2.1, bt232.2.2.2.1⟩ : S37), (⟨bt232.2.2.2.2.1, bt232.2.2.2.2.2⟩ : S39)⟩ : S41)] : List (S41))) 0 a0_0 a0_1 a0_2))
def spec_l06Close.T9 : Bool × List (List Nat × List Nat) := (true, [([], []), ([], []), ([], []), ([1, 2], [1, 2]), ([3], [3]), ([], []), ([], []), ([5, 6], [5, 6]), ([7], [7]), ([4, 8], [4, 8]), ([0, 9, 9], [0, 9]), ([], []), ([11, 10, 10, 0, 1, 2, 3, 4, 5, 6, 7, 8, 9, 10, 11], [10, 11])])
def spec_l06Close.B9 : List Nat := [0, 0, 0, 6, 14, 0, 0, 96, 224, 510, 1023, 0, 4095]
theorem spec_l06Close.tab9 : rtab .any (opsOf Try.f12 9) = spec_l06Close.T9 := by kernel_rfl
theorem spec_l06Close.bits9 : waitsOk spec_l06Close.T9.2 spec_l06Close.B9 = true := by kernel_rfl
set_option maxHeartbeats 80000000 in
set_option maxRecDepth 100000 in
theorem spec_l06Close.calls (k : Nat) (a0_0 : Int) (a0_1 : Int) (a0_2 : Int) (A1 : Option Addr) (c1 : Nat) (l1 : List (S41)) (r : List (S41)) (w : World) (hr1 : Kd.C k41 w A1 l1.length l1) (hc1 : l1.length ≤ c1) (h : spec_l06Close.f k a0_0 a0_1 a0_2 l1 = some r) :
  Calls Try.prog 12 #[.agg #[.int .i64 a0_0, .int .i64 a0_1, .int .i64 a0_2], .slice A1 l1.length c1] w fun e w' => ∃ v0_ : Value, e = .returned (v0_) ∧ Kd.R k41 41 w' w.heap.size (fun _ => True) v0_ r ∧ Below w.heap.size w w' := by
 have hu23 := Try.underlying23
 have hu41 := Try.underlying41
 have HR1 := Aside0.mk hr1
 have HC1 := Aside0.mk hc1
 clear hr1 hc1
 have HB := asd (Below.refl w.heap.size w)
 have H : ((spec_l06Unit.f).bind fun bt223 => ((spec_l06Unit.f).bind fun bt232 => (spec_l06Close.l0 k l1 (([(⟨(⟨bt223.1, bt223.2.1, bt223.2.2.1, bt223.2.2.2.1⟩ : S37), (⟨bt223.2.2.2.2.1, bt223.2.2.2.2.2⟩ : S39)⟩ : S41)] : List (S41))) (([(⟨(⟨bt232.1, bt232.2.1, bt232.2.2.1, bt232.2.2.2.1⟩ : S37), (⟨bt232.2.2.2.2.1, bt232.2.2.2.2.2⟩ : S39)⟩ : S41)] : List (S41))) 0 a0_0 a0_1 a0_2))) = some r := h
 clear h
 obtain ⟨⟨t223, t224, t225, t226, t227, t228⟩, A3, H⟩ := ob H
 try dsimp only at H
 obtain ⟨y229, hy229⟩ : ∃ y_ : List (S41), y_ = (([(⟨(⟨t223, t224, t225, t226⟩ : S37), (⟨t227, t228⟩ : S39)⟩ : S41)] : List (S41))) := ⟨_, rfl⟩
 replace H : ((spec_l06Unit.f).bind fun bt232 => (spec_l06Close.l0 k l1 y229 (([(⟨(⟨bt232.1, bt232.2.1, bt232.2.2.1, bt232.2.2.2.1⟩ : S37), (⟨bt232.2.2.2.2.1, bt232.2.2.2.2.2⟩ : S39)⟩ : S41)] : List (S41))) 0 a0_0 a0_1 a0_2)) = some r := by first | (rw [hy229]; with_reducible exact H) | (have H2_ := (Option.bind_some _ _).symm.trans H; rw [hy229]; with_reducible exact H2_) | (have H2_ := (Option.bind_some _ _).symm.trans H; with_reducible exact H2_) | with_reducible exact H | (rw [hy229]; exact H) | exact H
 have Ny229 := Aside0.mk hy229
 clear hy229
 obtain ⟨⟨t232, t233, t234, t235, t236, t237⟩, A4, H⟩ := ob H
 try dsimp only at H
 obtain ⟨y238, hy238⟩ : ∃ y_ : List (S41), y_ = (([(⟨(⟨t232, t233, t234, t235⟩ : S37), (⟨t236, t237⟩ : S39)⟩ : S41)] : List (S41))) := ⟨_, rfl⟩
 replace H : (spec_l06Close.l0 k l1 y229 y238 0 a0_0 a0_1 a0_2) = some r := by first | (rw [hy238]; with_reducible exact H) | (have H2_ := (Option.bind_some _ _).symm.trans H; rw [hy238]; with_reducible exact H2_) | (have H2_ := (Option.bind_some _ _).symm.trans H; with_reducible exact H2_) | with_reducible exact H | (rw [hy238]; exact H) | exact H
 have Ny238 := Aside0.mk hy238
 clear hy238
 have H' := Aside0.mk H
 clear H
 go_enter Try.func12, Try.ntmps12
 go_wp2_with (first | ((with_reducible refine gd 2 rfl ?_); refine bx #[.int .i64 a0_0, .int .i64 a0_1, .int .i64 a0_2] 23 ?_; intro gb222 hg w5 BK222 hb; have GE222 := ngw0 hg HB; replace HB := bS0 HB hb; clear hb hg) | ((with_reducible refine gate_callee (f := 17) rfl ?_); refine gl 10 Try.func17 #[] ?_; (with_reducible refine (spec_l06Unit.calls _ _ _ _ _ _ _ A3.out).mono ?_); rintro e w6 ⟨rfl, hb⟩; refine ⟨_, rfl, ?_⟩; replace BK222 := bB BK222 hb; replace HB := bS1 HB GE222 hb; (try clear hb)) | ((with_reducible refine gd 11 rfl ?_); refine Kd.R_lit k41 _ 41 ?hg (N := 11) ?hd (xs := ([(⟨(⟨t223, t224, t225, t226⟩ : S37), (⟨t227, t228⟩ : S39)⟩ : S41)] : List (S41))) (inner := [.int .i64 t223, .int .i64 t224, .int .i64 t225, .int .i64 t226, .int .i64 t227, .int .i64 t228]) (ok := fun _ => True) (okp := fun _ => True) ?hr ?hp (fun _ hk => hk) trivial (Below.refl _ _) (Nat.le_refl _) (by simp) ?_; (case hd => rfl); (case hg => rfl); (case hr => first | (go_simp; done) | (go_simp; rfl)); (case hp => exact (Reps.c6 (show Kd.M k41 _ _ _ (⟨(⟨t223, t224, t225, t226⟩ : S37), (⟨t227, t228⟩ : S39)⟩ : S41) [.int .i64 t223, .int .i64 t224, .int .i64 t225, .int .i64 t226, .int .i64 t227, .int .i64 t228] from (k41_mkM _ _ _ (⟨(⟨t223, t224, t225, t226⟩ : S37), (⟨t227, t228⟩ : S39)⟩ : S41) )) (Reps.none _ _))); intro v230 w7 ho8 hb hg_ hnew_; clear hg_ hnew_; (first | rw [← Ny229.out] at ho8 | (simp only [Int.reduceToNat] at ho8; rw [← Ny229.out] at ho8)); have HO231 := asd (Kd.R_lower ho8 (bsz1 HB GE222)); replace BK222 := bB BK222 hb; replace HB := bS1 HB GE222 hb; clear hb ho8) | ((with_reducible refine gate_callee (f := 17) rfl ?_); refine gl 12 Try.func17 #[] ?_; (with_reducible refine (spec_l06Unit.calls _ _ _ _ _ _ _ A4.out).mono ?_); rintro e w9 ⟨rfl, hb⟩; refine ⟨_, rfl, ?_⟩; replace HO231 := asd (Kd.R_below (kr HO231) hb); replace BK222 := bB BK222 hb; replace HB := bS1 HB GE222 hb; (try clear hb)) | ((with_reducible refine gd 13 rfl ?_); refine Kd.R_lit k41 _ 41 ?hg (N := 13) ?hd (xs := ([(⟨(⟨t232, t233, t234, t235⟩ : S37), (⟨t236, t237⟩ : S39)⟩ : S41)] : List (S41))) (inner := [.int .i64 t232, .int .i64 t233, .int .i64 t234, .int .i64 t235, .int .i64 t236, .int .i64 t237]) (ok := fun _ => True) (okp := fun _ => True) ?hr ?hp (fun _ hk => hk) trivial (Below.refl _ _) (Nat.le_refl _) (by simp) ?_; (case hd => rfl); (case hg => rfl); (case hr => first | (go_simp; done) | (go_simp; rfl)); (case hp => exact (Reps.c6 (show Kd.M k41 _ _ _ (⟨(⟨t232, t233, t234, t235⟩ : S37), (⟨t236, t237⟩ : S39)⟩ : S41) [.int .i64 t232, .int .i64 t233, .int .i64 t234, .int .i64 t235, .int .i64 t236, .int .i64 t237] from (k41_mkM _ _ _ (⟨(⟨t232, t233, t234, t235⟩ : S37), (⟨t236, t237⟩ : S39)⟩ : S41) )) (Reps.none _ _))); intro v239 w10 ho11 hb hg_ hnew_; clear hg_ hnew_; (first | rw [← Ny238.out] at ho11 | (simp only [Int.reduceToNat] at ho11; rw [← Ny238.out] at ho11)); have HO240 := asd (Kd.R_lower (Kd.R_new' ho11 (Kd.R_lt (kr HO231))) (bsz1 HB GE222)); replace HO231 := asd (Kd.R_elder' (kr HO231) (Kd.R_base ho11) hb); replace BK222 := bB BK222 hb; replace HB := bS1 HB GE222 hb; clear hb ho11))
 go_loopg [5, 6, 7] k (fun kq v5 v6 v7 w' => ∃ (x5_1 : List (S41)) (x6_1 : List (S41)) (x7_1 : Int), v7 = .int .i64 x7_1 ∧ Aside0 (spec_l06Close.l0 kq l1 x5_1 x6_1 x7_1 a0_0 a0_1 a0_2 = some r) ∧ Aside0 (kq ≤ k) ∧ Aside0 (Kd.R k41 41 w' w.heap.size (fun k_ => some k_ ≠ (v6 : Value).ownBlock) v5 x5_1) ∧ Aside0 (Kd.R k41 41 w' w.heap.size (fun k_ => some k_ ≠ (v5 : Value).ownBlock) v6 x6_1) ∧ Aside0 (w'.heap[gb222]? = some (.cells #[.int .i64 a0_0, .int .i64 a0_1, .int .i64 a0_2] 23 (0, 0))) ∧ Aside0 (Below w.heap.size w w'))
 case atStart => exact ⟨(y229), (y238), (0), (by first | rfl | (simp; done) | (simp [*]; done)), H', ⟨Nat.le_refl _⟩, ⟨by (with_reducible repeat (first | apply Kd.R_alloc | apply Kd.R_drewN | apply Kd.R_drew)); exact Kd.R_mono HO231.out (fun _ hk => hk.2)⟩, ⟨by (with_reducible repeat (first | apply Kd.R_alloc | apply Kd.R_drewN | apply Kd.R_drew)); exact Kd.R_mono HO240.out (fun _ hk => hk.2)⟩, ⟨bkp BK222⟩, ⟨bbw1 HB GE222⟩⟩
 case round =>
  clear H'
  try clear c1
  try clear p2
  try clear c6
  obtain ⟨x5_1, x6_1, x7_1, rfl, HA, HK1, HO_5, HO_6, BK222, HB⟩ := hrel
  cases gk with
  | zero => exact absurd HA.out (by simp [spec_l06Close.l0])
  | succ k1 =>
   have H := HA.out
   clear HA
   simp only [spec_l06Close.l0] at H
   by_cases c12 : x7_1 < (x6_1.length : Int)
   ·rw [if_pos c12] at H
    have c12b0 := decide_eq_true c12
    clear c12
    have H' := Aside0.mk H
    clear H
    obtain ⟨Ao13, co13, eo13⟩ := Kd.R_slice HO_6.out
    subst eo13
    go_wp2
    go_loopg [5, 6, 8] k1 (fun kq v5 v6 v8 w' => ∃ (x5_2 : List (S41)) (x6_2 : List (S41)) (x8_2 : Int), v8 = .int .i64 x8_2 ∧ Aside0 (spec_l06Close.l1 kq l1 x5_2 x6_2 x7_1 x8_2 a0_0 a0_1 a0_2 = some r) ∧ Aside0 (kq ≤ k1) ∧ Aside0 (Kd.R k41 41 w' w.heap.size (fun k_ => some k_ ≠ (v6 : Value).ownBlock) v5 x5_2) ∧ Aside0 (Kd.R k41 41 w' w.heap.size (fun k_ => some k_ ≠ (v5 : Value).ownBlock) v6 x6_2) ∧ Aside0 (w'.heap[gb222]? = some (.cells #[.int .i64 a0_0, .int .i64 a0_1, .int .i64 a0_2] 23 (0, 0))) ∧ Aside0 (Below w.heap.size w w'))
    case atStart => exact ⟨(x5_1), (x6_1), (0), (by first | rfl | (simp; done) | (simp [*]; done)), H', ⟨Nat.le_refl _⟩, ⟨by (with_reducible repeat (first | apply Kd.R_alloc | apply Kd.R_drewN | apply Kd.R_drew)); exact HO_5.out⟩, ⟨by (with_reducible repeat (first | apply Kd.R_alloc | apply Kd.R_drewN | apply Kd.R_drew)); exact HO_6.out⟩, ⟨bkp BK222⟩, ⟨bbw1 HB GE222⟩⟩
    case round =>
     clear H'
     try clear c1
     try clear p2
     try clear c6
     try clear c12
     try clear c12b0
     try clear p2
     obtain ⟨x5_2, x6_2, x8_2, rfl, HA, HK2, HO_5, HO_6, BK222, HB⟩ := hrel
     cases gk with
     | zero => exact absurd HA.out (by simp [spec_l06Close.l1])
     | succ k2 =>
      have H := HA.out
      clear HA
      simp only [spec_l06Close.l1] at H
      by_cases c14 : x8_2 < (l1.length : Int)
      rw [if_pos c14] at H
      have c14b0 := decide_eq_true c14
      clear c14
      by_cases c15 : 0 ≤ x8_2
      rw [if_pos c15] at H
      have c15b0 := decide_eq_true c15
      clear c15
      by_cases c16 : 0 ≤ x7_1
      rw [if_pos c16] at H
      have c16b0 := decide_eq_true c16
      clear c16
      by_cases c17 : x7_1 < (x6_2.length : Int)
      rw [if_pos c17] at H
      have c17b0 := decide_eq_true c17
      clear c17
      obtain ⟨⟨t243, t244, t245, t246, t247, t248⟩, A18, H⟩ := ob H
      try dsimp only at H
      obtain ⟨⟨t249, t250, t251, t252, t253, t254⟩, A19, H⟩ := ob H
      try dsimp only at H
      obtain ⟨t256, A20, H⟩ := ob H
      try dsimp only at H
      by_cases c21 : t256 = true
      subst c21
      replace H := ifT H
      have H' := Aside0.mk H
      clear H
      rotate_left
      replace c21 := Bool.eq_false_iff.mpr c21
      subst c21
      replace H := ifF H
      by_cases c38 : (x5_2.length < 2932031007402 ∧ spec_l06Insert.ok x5_2 (⟨(⟨t249, t250, t251, t252⟩ : S37), (⟨t253, t254⟩ : S39)⟩ : S41) = true)
      rw [if_pos c38] at H
      have LMc38 := Aside0.mk c38
      clear c38
      obtain ⟨y257, hy257⟩ : ∃ y_ : List (S41), y_ = (spec_l06Insert.ins x5_2 (⟨(⟨t249, t250, t251, t252⟩ : S37), (⟨t253, t254⟩ : S39)⟩ : S41)) := ⟨_, rfl⟩
      replace H : (if x6_2.length < 2932031007402 then (spec_l06Close.l1 k2 l1 y257 (x6_2 ++ [(⟨(⟨t249, t250, t251, t252⟩ : S37), (⟨t253, t254⟩ : S39)⟩ : S41)]) x7_1 (wrap64 (x8_2 + 1)) a0_0 a0_1 a0_2) else (none)) = some r := by first | (rw [hy257]; with_reducible exact H) | (have H2_ := (Option.bind_some _ _).symm.trans H; rw [hy257]; with_reducible exact H2_) | (have H2_ := (Option.bind_some _ _).symm.trans H; with_reducible exact H2_) | with_reducible exact H | (rw [hy257]; exact H) | exact H
      have Ny257 := Aside0.mk hy257
      clear hy257
      by_cases c39 : x6_2.length < 2932031007402
      rw [if_pos c39] at H
      have LMc39 := Aside0.mk c39
      clear c39
      obtain ⟨y260, hy260⟩ : ∃ y_ : List (S41), y_ = (x6_2 ++ [(⟨(⟨t249, t250, t251, t252⟩ : S37), (⟨t253, t254⟩ : S39)⟩ : S41)]) := ⟨_, rfl⟩
      replace H : (spec_l06Close.l1 k2 l1 y257 y260 x7_1 (wrap64 (x8_2 + 1)) a0_0 a0_1 a0_2) = some r := by first | (rw [hy260]; with_reducible exact H) | (have H2_ := (Option.bind_some _ _).symm.trans H; rw [hy260]; with_reducible exact H2_) | (have H2_ := (Option.bind_some _ _).symm.trans H; with_reducible exact H2_) | with_reducible exact H | (rw [hy260]; exact H) | exact H
      have Ny260 := Aside0.mk hy260
      clear hy260
      have H' := Aside0.mk H
      clear H
      rotate_left
      ·rw [if_neg c39] at H
       exact absurd H (by simp)
      ·rw [if_neg c38] at H
       exact absurd H (by simp)
      ·rw [if_neg c17] at H
       exact absurd H (by simp)
      ·rw [if_neg c16] at H
       exact absurd H (by simp)
      ·rw [if_neg c15] at H
       exact absurd H (by simp)
      rw [if_neg c14] at H
      have c14b0 := decide_eq_false c14
      clear c14
      have H' := Aside0.mk H
      clear H
      rotate_left
      rotate_left 2
      ·go_wp2
       go_roundg k2
       case measure => have := HK1.out; have := HK2.out; omega
       case rel => exact ⟨(x5_2), (x6_2), (wrap64 (x7_1 + 1)), (by first | rfl | (simp; done) | (simp [*]; done)), H', ⟨by have := HK1.out; have := HK2.out; omega⟩, ⟨by (with_reducible repeat (first | apply Kd.R_alloc | apply Kd.R_drewN | apply Kd.R_drew)); exact HO_5.out⟩, ⟨by (with_reducible repeat (first | apply Kd.R_alloc | apply Kd.R_drewN | apply Kd.R_drew)); exact HO_6.out⟩, ⟨bkp BK222⟩, ⟨bbw1 HB GE222⟩⟩
      all_goals
       try go_wp2
       replace HO_5 := asd (Kd.R_drew HO_5.out)
       replace HO_6 := asd (Kd.R_drew HO_6.out)
       replace BK222 := asd (blk_drew BK222.out)
       replace HB := asd (below_drew1 HB.out)
       obtain ⟨p241, q241, ad241, e241, hw241_0, hw241_1, hw241_2, hw241_3, hw241_4, hw241_5, hx241_0, hx241_1, hx241_2, hx241_3, hx241_4, hx241_5⟩ := at_T41w HR1.out HB x8_2
       cases e241
       obtain ⟨Ao23, co23, eo23⟩ := Kd.R_slice HO_6.out
       (first | subst eo23 | (injection eo23 with f1_ f2_ f3_; have f4_ := f1_.symm; have f5_ := f3_.symm; clear f1_ f2_ f3_; subst f4_; subst f5_))
       have p242 : 0 ≤ (x7_1 : Int) := od
       have q242 : x7_1 < (x6_2.length : Int) := od
       obtain ⟨ad242, e242, hx242_0, hx242_1, hx242_2, hx242_3, hx242_4, hx242_5⟩ := at_T41 (Kd.R_reads' HO_6.out).2.2 x7_1 p242 q242
       cases e242
       replace p242 := eq_true p242
       replace q242 := eq_true q242
       refine sh 13 (cb3 BK222 (cx6 HB hw241_0 hw241_1 hw241_2 hw241_3 hw241_4 hw241_5 (PA.c1 hx242_0 (PA.c1 hx242_1 (PA.c1 hx242_2 (PA.c1 hx242_3 (PA.c1 hx242_4 (PA.e1 hx242_5)))))))) (fun hHeld => ?_); refine with_tabW spec_l06Close.tab9 spec_l06Close.bits9 (fun HT_ HW_ => ?_)
       generalize wr.drew = w22 at HO_5 HO_6 BK222 HB hx241_0 hx241_1 hx241_2 hx241_3 hx241_4 hx241_5 hx242_0 hx242_1 hx242_2 hx242_3 hx242_4 hx242_5 hHeld ⊢
       refine pu 1 (some 27) (bs 13 2) HT_ ?_
       refine pu 2 (some 28) (bs 13 6) HT_ ?_
       refine pu 3 (some 29) (bs 13 14) HT_ ?_
       refine pu 5 (some 31) (bs 13 46) HT_ ?_
       refine pu 6 (some 32) (bs 13 110) HT_ ?_
       refine pu 7 (some 33) (bs 13 238) HT_ ?_
       refine ta 0 (some 26) (bs 13 239) HT_ HW_ hHeld ?_
       refine ta 4 (some 30) (bT 13 8) HT_ HW_ hHeld ?_
       refine ta 8 (some 34) (bT 13 9) HT_ HW_ hHeld ?_
       refine join_ (σ := Nat) 1 (bT 13 12) (fun s_ => [(35, .agg #[.int .i64 t243, .int .i64 t244, .int .i64 t245, .int .i64 t246, .int .i64 t247, .int .i64 t248]), (36, .agg #[.int .i64 t249, .int .i64 t250, .int .i64 t251, .int .i64 t252, .int .i64 t253, .int .i64 t254]), (9, .pointer (some ⟨s_, 0, none⟩))]) (fun s_ w' => (w'.cell? ⟨gb222, 0, none⟩ = some (.int .i64 a0_0) ∧ w'.cell? ⟨gb222, 1, none⟩ = some (.int .i64 a0_1) ∧ w'.cell? ⟨gb222, 2, none⟩ = some (.int .i64 a0_2) ∧ w'.cell? (ad241.add ((x8_2).toNat * 6)) = some (.int .i64 ((rd_T41 l1 x8_2).f0.f0)) ∧ w'.cell? ⟨(ad241.add ((x8_2).toNat * 6)).block, (ad241.add ((x8_2).toNat * 6)).off + 1, none⟩ = some (.int .i64 ((rd_T41 l1 x8_2).f0.f1)) ∧ w'.cell? ⟨(ad241.add ((x8_2).toNat * 6)).block, (ad241.add ((x8_2).toNat * 6)).off + 2, none⟩ = some (.int .i64 ((rd_T41 l1 x8_2).f0.f2)) ∧ w'.cell? ⟨(ad241.add ((x8_2).toNat * 6)).block, (ad241.add ((x8_2).toNat * 6)).off + 3, none⟩ = some (.int .i64 ((rd_T41 l1 x8_2).f0.f3)) ∧ w'.cell? ⟨(ad241.add ((x8_2).toNat * 6)).block, (ad241.add ((x8_2).toNat * 6)).off + 4, none⟩ = some (.int .i64 ((rd_T41 l1 x8_2).f1.f0)) ∧ w'.cell? ⟨(ad241.add ((x8_2).toNat * 6)).block, (ad241.add ((x8_2).toNat * 6)).off + 5, none⟩ = some (.int .i64 ((rd_T41 l1 x8_2).f1.f1)) ∧ w'.cell? (ad242.add ((x7_1).toNat * 6)) = some (.int .i64 ((rd_T41 x6_2 x7_1).f0.f0)) ∧ w'.cell? ⟨(ad242.add ((x7_1).toNat * 6)).block, (ad242.add ((x7_1).toNat * 6)).off + 1, none⟩ = some (.int .i64 ((rd_T41 x6_2 x7_1).f0.f1)) ∧ w'.cell? ⟨(ad242.add ((x7_1).toNat * 6)).block, (ad242.add ((x7_1).toNat * 6)).off + 2, none⟩ = some (.int .i64 ((rd_T41 x6_2 x7_1).f0.f2)) ∧ w'.cell? ⟨(ad242.add ((x7_1).toNat * 6)).block, (ad242.add ((x7_1).toNat * 6)).off + 3, none⟩ = some (.int .i64 ((rd_T41 x6_2 x7_1).f0.f3)) ∧ w'.cell? ⟨(ad242.add ((x7_1).toNat * 6)).block, (ad242.add ((x7_1).toNat * 6)).off + 4, none⟩ = some (.int .i64 ((rd_T41 x6_2 x7_1).f1.f0)) ∧ w'.cell? ⟨(ad242.add ((x7_1).toNat * 6)).block, (ad242.add ((x7_1).toNat * 6)).off + 5, none⟩ = some (.int .i64 ((rd_T41 x6_2 x7_1).f1.f1))) ∧ (Kd.R k41 41 w' w.heap.size (fun k_ => some k_ ≠ (.slice (some ad242) x6_2.length co23 : Value).ownBlock ∧ k_ ≠ s_) u5 x5_2) ∧ (Kd.R k41 41 w' w.heap.size (fun k_ => some k_ ≠ (u5 : Value).ownBlock ∧ k_ ≠ s_) (.slice (some ad242) x6_2.length co23) x6_2) ∧ (w'.heap[gb222]? = some (.cells #[.int .i64 a0_0, .int .i64 a0_1, .int .i64 a0_2] 23 (0, 0))) ∧ (w'.heap[s_]? = some (.cells #[.int .i64 0, .int .i64 0, .int .i64 0, .int .i64 0, .int .i64 0, .int .i64 0] 41 (0, 0))) ∧ (w.heap.size ≤ s_) ∧ (w.heap.size ≤ s_) ∧ (gb222 ≠ s_) ∧ (s_ ≠ gb222) ∧ (Below w.heap.size w w')) ?_ ?_
       rotate_left
       ·intro hCont
        refine two_ (i := 9) (j := 11) (Ni := some 35) (Nj := some 9) (bT 13 10) (bs 13 2559) rfl rfl rfl rfl (two_of HT_.out (by kernel_rfl)) (by decide) (by decide) (fun K hK => ?_) (fun K hK => ?_)
        ·skip
         refine gs Try.func19 #[.agg #[.int .i64 ((rd_T41 l1 x8_2).f0.f0), .int .i64 ((rd_T41 l1 x8_2).f0.f1), .int .i64 ((rd_T41 l1 x8_2).f0.f2), .int .i64 ((rd_T41 l1 x8_2).f0.f3), .int .i64 ((rd_T41 l1 x8_2).f1.f0), .int .i64 ((rd_T41 l1 x8_2).f1.f1)], .agg #[.int .i64 ((rd_T41 x6_2 x7_1).f0.f0), .int .i64 ((rd_T41 x6_2 x7_1).f0.f1), .int .i64 ((rd_T41 x6_2 x7_1).f0.f2), .int .i64 ((rd_T41 x6_2 x7_1).f0.f3), .int .i64 ((rd_T41 x6_2 x7_1).f1.f0), .int .i64 ((rd_T41 x6_2 x7_1).f1.f1)]] ?_
         with_reducible refine (spec_l05Compose.calls _ _ _ _ _ _ _ _ _ _ _ _ _ _ _ _ _ _ _ A18.out).mono ?_
         rintro e w24 ⟨rfl, hb⟩
         have HS9_ := hbc hb (hHeld.2.2.2.2.2.2.2.2.2.1)
         have HS10_ := hbc hb (hHeld.2.2.2.2.2.2.2.2.2.2.1)
         have HS11_ := hbc hb (hHeld.2.2.2.2.2.2.2.2.2.2.2.1)
         have HS12_ := hbc hb (hHeld.2.2.2.2.2.2.2.2.2.2.2.2.1)
         have HS13_ := hbc hb (hHeld.2.2.2.2.2.2.2.2.2.2.2.2.2.1)
         have HS14_ := hbc hb (hHeld.2.2.2.2.2.2.2.2.2.2.2.2.2.2)
         refine ⟨_, rfl, ?_⟩
         replace HO_5 := asd (Kd.R_below (kr HO_5) hb)
         replace HO_6 := asd (Kd.R_below (kr HO_6) hb)
         replace BK222 := bB BK222 hb
         replace HB := bS1 HB GE222 hb
         (try clear hb)
         (try clear hb2)
         (try clear hk)
         (try clear hi)
         refine hK.out _ _ ⟨bcl BK222 0, bcl BK222 1, bcl BK222 2, (xb HB hw241_0), (xb HB hw241_1), (xb HB hw241_2), (xb HB hw241_3), (xb HB hw241_4), (xb HB hw241_5), HS9_, HS10_, HS11_, HS12_, HS13_, HS14_⟩ (fun hHeld => ?_)
         clear hK K
         refine norm_ (a' := ?_) ?_ ?_
         rotate_left
         ·show Act.put _ (some 35) _ = _
          simp only [Act.put, sA, sB, sC, i64_w, i32_w]
          rfl
         refine two_ (i := 10) (j := 11) (Ni := some 36) (Nj := some 9) (bT 13 11) (bs 13 3071) rfl rfl rfl rfl (two_of HT_.out (by kernel_rfl)) (by decide) (by decide) (fun K hK => ?_) (fun K hK => ?_)
         ·skip
          refine gs Try.func18 #[.agg #[.int .i64 a0_0, .int .i64 a0_1, .int .i64 a0_2], .agg #[.int .i64 t243, .int .i64 t244, .int .i64 t245, .int .i64 t246, .int .i64 t247, .int .i64 t248]] ?_
          with_reducible refine (spec_l06Reduce.calls _ _ _ _ _ _ _ _ _ _ _ _ _ _ _ _ A19.out).mono ?_
          rintro e w25 ⟨rfl, hb⟩
          have HS9_ := hbc hb (hHeld.2.2.2.2.2.2.2.2.2.1)
          have HS10_ := hbc hb (hHeld.2.2.2.2.2.2.2.2.2.2.1)
          have HS11_ := hbc hb (hHeld.2.2.2.2.2.2.2.2.2.2.2.1)
          have HS12_ := hbc hb (hHeld.2.2.2.2.2.2.2.2.2.2.2.2.1)
          have HS13_ := hbc hb (hHeld.2.2.2.2.2.2.2.2.2.2.2.2.2.1)
          have HS14_ := hbc hb (hHeld.2.2.2.2.2.2.2.2.2.2.2.2.2.2)
          refine ⟨_, rfl, ?_⟩
          replace HO_5 := asd (Kd.R_below (kr HO_5) hb)
          replace HO_6 := asd (Kd.R_below (kr HO_6) hb)
          replace BK222 := bB BK222 hb
          replace HB := bS1 HB GE222 hb
          (try clear hb)
          (try clear hb2)
          (try clear hk)
          (try clear hi)
          refine hK.out _ _ ⟨bcl BK222 0, bcl BK222 1, bcl BK222 2, (xb HB hw241_0), (xb HB hw241_1), (xb HB hw241_2), (xb HB hw241_3), (xb HB hw241_4), (xb HB hw241_5), HS9_, HS10_, HS11_, HS12_, HS13_, HS14_⟩ (fun hHeld => ?_)
          clear hK K
          refine norm_ (a' := ?_) ?_ ?_
          rotate_left
          ·show Act.put _ (some 36) _ = _
           simp only [Act.put, sA, sB, sC, i64_w, i32_w]
           rfl
          refine ro 11 (some 9) (bT 13 12) HT_ (fun K hK => ?_)
          refine box_step ?hg (N := 9) ?hd (cs := #[.int .i64 0, .int .i64 0, .int .i64 0, .int .i64 0, .int .i64 0, .int .i64 0]) (t := 41) ?hr ?_; (case hd => rfl); (case hg => rfl); (case hr => first | (go_simp; done) | (go_simp; rfl))
          intro gb255 hg w26 hbox hb
          have HS9_ := hbc hb (hHeld.2.2.2.2.2.2.2.2.2.1)
          have HS10_ := hbc hb (hHeld.2.2.2.2.2.2.2.2.2.2.1)
          have HS11_ := hbc hb (hHeld.2.2.2.2.2.2.2.2.2.2.2.1)
          have HS12_ := hbc hb (hHeld.2.2.2.2.2.2.2.2.2.2.2.2.1)
          have HS13_ := hbc hb (hHeld.2.2.2.2.2.2.2.2.2.2.2.2.2.1)
          have HS14_ := hbc hb (hHeld.2.2.2.2.2.2.2.2.2.2.2.2.2.2)
          replace HO_5 := asd (Kd.R_below (Kd.R_elderB (kr HO_5) gb255 (Nat.le_of_eq hg.symm)) hb)
          replace HO_6 := asd (Kd.R_below (Kd.R_elderB (kr HO_6) gb255 (Nat.le_of_eq hg.symm)) hb)
          have BK255 := asd (hbox)
          have GW255 := ngw1 hg HB GE222
          have GE255 := ngw1 hg HB GE222
          replace HB := bS1 HB GE222 hb
          have NB222_255 := nlt hg BK222
          have NB255_222 := nsy (nlt hg BK222)
          replace BK222 := bB BK222 hb
          clear hb hbox hg
          refine hK.out _ _ ⟨bcl BK222 0, bcl BK222 1, bcl BK222 2, (xb HB hw241_0), (xb HB hw241_1), (xb HB hw241_2), (xb HB hw241_3), (xb HB hw241_4), (xb HB hw241_5), HS9_, HS10_, HS11_, HS12_, HS13_, HS14_⟩ (fun hHeld => ?_)
          clear hK K
          refine norm_ (a' := ?_) ?_ ?_
          rotate_left
          ·show Act.put _ (some 9) _ = _
           simp only [Act.put, sA, sB, sC, i64_w, i32_w]
           rfl
          exact norm_ (by simp only [putAll, Act.put, sA, sB, sC]) (hCont (gb255) _ ⟨hHeld, (kr HO_5), (kr HO_6), (bkp BK222), (bkp BK255), GW255.out, GE255.out, NB222_255.out, NB255_222.out, (bbw2 HB GE222 GE255)⟩)
         ·skip
          refine box_step ?hg (N := 9) ?hd (cs := #[.int .i64 0, .int .i64 0, .int .i64 0, .int .i64 0, .int .i64 0, .int .i64 0]) (t := 41) ?hr ?_; (case hd => rfl); (case hg => rfl); (case hr => first | (go_simp; done) | (go_simp; rfl))
          intro gb255 hg w25 hbox hb
          have HS9_ := hbc hb (hHeld.2.2.2.2.2.2.2.2.2.1)
          have HS10_ := hbc hb (hHeld.2.2.2.2.2.2.2.2.2.2.1)
          have HS11_ := hbc hb (hHeld.2.2.2.2.2.2.2.2.2.2.2.1)
          have HS12_ := hbc hb (hHeld.2.2.2.2.2.2.2.2.2.2.2.2.1)
          have HS13_ := hbc hb (hHeld.2.2.2.2.2.2.2.2.2.2.2.2.2.1)
          have HS14_ := hbc hb (hHeld.2.2.2.2.2.2.2.2.2.2.2.2.2.2)
          replace HO_5 := asd (Kd.R_below (Kd.R_elderB (kr HO_5) gb255 (Nat.le_of_eq hg.symm)) hb)
          replace HO_6 := asd (Kd.R_below (Kd.R_elderB (kr HO_6) gb255 (Nat.le_of_eq hg.symm)) hb)
          have BK255 := asd (hbox)
          have GW255 := ngw1 hg HB GE222
          have GE255 := ngw1 hg HB GE222
          replace HB := bS1 HB GE222 hb
          have NB222_255 := nlt hg BK222
          have NB255_222 := nsy (nlt hg BK222)
          replace BK222 := bB BK222 hb
          clear hb hbox hg
          refine hK.out _ _ ⟨bcl BK222 0, bcl BK222 1, bcl BK222 2, (xb HB hw241_0), (xb HB hw241_1), (xb HB hw241_2), (xb HB hw241_3), (xb HB hw241_4), (xb HB hw241_5), HS9_, HS10_, HS11_, HS12_, HS13_, HS14_⟩ (fun hHeld => ?_)
          clear hK K
          refine norm_ (a' := ?_) ?_ ?_
          rotate_left
          ·show Act.put _ (some 9) _ = _
           simp only [Act.put, sA, sB, sC, i64_w, i32_w]
           rfl
          refine ro 10 (some 36) (bT 13 12) HT_ (fun K hK => ?_)
          refine gs Try.func18 #[.agg #[.int .i64 a0_0, .int .i64 a0_1, .int .i64 a0_2], .agg #[.int .i64 t243, .int .i64 t244, .int .i64 t245, .int .i64 t246, .int .i64 t247, .int .i64 t248]] ?_
          with_reducible refine (spec_l06Reduce.calls _ _ _ _ _ _ _ _ _ _ _ _ _ _ _ _ A19.out).mono ?_
          rintro e w26 ⟨rfl, hb⟩
          have HS9_ := hbc hb (hHeld.2.2.2.2.2.2.2.2.2.1)
          have HS10_ := hbc hb (hHeld.2.2.2.2.2.2.2.2.2.2.1)
          have HS11_ := hbc hb (hHeld.2.2.2.2.2.2.2.2.2.2.2.1)
          have HS12_ := hbc hb (hHeld.2.2.2.2.2.2.2.2.2.2.2.2.1)
          have HS13_ := hbc hb (hHeld.2.2.2.2.2.2.2.2.2.2.2.2.2.1)
          have HS14_ := hbc hb (hHeld.2.2.2.2.2.2.2.2.2.2.2.2.2.2)
          refine ⟨_, rfl, ?_⟩
          replace HO_5 := asd (Kd.R_below (kr HO_5) hb)
          replace HO_6 := asd (Kd.R_below (kr HO_6) hb)
          replace BK222 := bB BK222 hb
          replace BK255 := bB BK255 hb
          replace HB := bS2 HB GE222 GE255 hb
          (try clear hb)
          (try clear hb2)
          (try clear hk)
          (try clear hi)
          refine hK.out _ _ ⟨bcl BK222 0, bcl BK222 1, bcl BK222 2, (xb HB hw241_0), (xb HB hw241_1), (xb HB hw241_2), (xb HB hw241_3), (xb HB hw241_4), (xb HB hw241_5), HS9_, HS10_, HS11_, HS12_, HS13_, HS14_⟩ (fun hHeld => ?_)
          clear hK K
          refine norm_ (a' := ?_) ?_ ?_
          rotate_left
          ·show Act.put _ (some 36) _ = _
           simp only [Act.put, sA, sB, sC, i64_w, i32_w]
           rfl
          exact norm_ (by simp only [putAll, Act.put, sA, sB, sC]) (hCont (gb255) _ ⟨hHeld, (kr HO_5), (kr HO_6), (bkp BK222), (bkp BK255), GW255.out, GE255.out, NB222_255.out, NB255_222.out, (bbw2 HB GE222 GE255)⟩)
        ·skip
         refine box_step ?hg (N := 9) ?hd (cs := #[.int .i64 0, .int .i64 0, .int .i64 0, .int .i64 0, .int .i64 0, .int .i64 0]) (t := 41) ?hr ?_; (case hd => rfl); (case hg => rfl); (case hr => first | (go_simp; done) | (go_simp; rfl))
         intro gb255 hg w24 hbox hb
         have HS9_ := hbc hb (hHeld.2.2.2.2.2.2.2.2.2.1)
         have HS10_ := hbc hb (hHeld.2.2.2.2.2.2.2.2.2.2.1)
         have HS11_ := hbc hb (hHeld.2.2.2.2.2.2.2.2.2.2.2.1)
         have HS12_ := hbc hb (hHeld.2.2.2.2.2.2.2.2.2.2.2.2.1)
         have HS13_ := hbc hb (hHeld.2.2.2.2.2.2.2.2.2.2.2.2.2.1)
         have HS14_ := hbc hb (hHeld.2.2.2.2.2.2.2.2.2.2.2.2.2.2)
         replace HO_5 := asd (Kd.R_below (Kd.R_elderB (kr HO_5) gb255 (Nat.le_of_eq hg.symm)) hb)
         replace HO_6 := asd (Kd.R_below (Kd.R_elderB (kr HO_6) gb255 (Nat.le_of_eq hg.symm)) hb)
         have BK255 := asd (hbox)
         have GW255 := ngw1 hg HB GE222
         have GE255 := ngw1 hg HB GE222
         replace HB := bS1 HB GE222 hb
         have NB222_255 := nlt hg BK222
         have NB255_222 := nsy (nlt hg BK222)
         replace BK222 := bB BK222 hb
         clear hb hbox hg
         refine hK.out _ _ ⟨bcl BK222 0, bcl BK222 1, bcl BK222 2, (xb HB hw241_0), (xb HB hw241_1), (xb HB hw241_2), (xb HB hw241_3), (xb HB hw241_4), (xb HB hw241_5), HS9_, HS10_, HS11_, HS12_, HS13_, HS14_⟩ (fun hHeld => ?_)
         clear hK K
         refine norm_ (a' := ?_) ?_ ?_
         rotate_left
         ·show Act.put _ (some 9) _ = _
          simp only [Act.put, sA, sB, sC, i64_w, i32_w]
          rfl
         refine ro 9 (some 35) (bs 13 3071) HT_ (fun K hK => ?_)
         refine gs Try.func19 #[.agg #[.int .i64 ((rd_T41 l1 x8_2).f0.f0), .int .i64 ((rd_T41 l1 x8_2).f0.f1), .int .i64 ((rd_T41 l1 x8_2).f0.f2), .int .i64 ((rd_T41 l1 x8_2).f0.f3), .int .i64 ((rd_T41 l1 x8_2).f1.f0), .int .i64 ((rd_T41 l1 x8_2).f1.f1)], .agg #[.int .i64 ((rd_T41 x6_2 x7_1).f0.f0), .int .i64 ((rd_T41 x6_2 x7_1).f0.f1), .int .i64 ((rd_T41 x6_2 x7_1).f0.f2), .int .i64 ((rd_T41 x6_2 x7_1).f0.f3), .int .i64 ((rd_T41 x6_2 x7_1).f1.f0), .int .i64 ((rd_T41 x6_2 x7_1).f1.f1)]] ?_
         with_reducible refine (spec_l05Compose.calls _ _ _ _ _ _ _ _ _ _ _ _ _ _ _ _ _ _ _ A18.out).mono ?_
         rintro e w25 ⟨rfl, hb⟩
         have HS9_ := hbc hb (hHeld.2.2.2.2.2.2.2.2.2.1)
         have HS10_ := hbc hb (hHeld.2.2.2.2.2.2.2.2.2.2.1)
         have HS11_ := hbc hb (hHeld.2.2.2.2.2.2.2.2.2.2.2.1)
         have HS12_ := hbc hb (hHeld.2.2.2.2.2.2.2.2.2.2.2.2.1)
         have HS13_ := hbc hb (hHeld.2.2.2.2.2.2.2.2.2.2.2.2.2.1)
         have HS14_ := hbc hb (hHeld.2.2.2.2.2.2.2.2.2.2.2.2.2.2)
         refine ⟨_, rfl, ?_⟩
         replace HO_5 := asd (Kd.R_below (kr HO_5) hb)
         replace HO_6 := asd (Kd.R_below (kr HO_6) hb)
         replace BK222 := bB BK222 hb
         replace BK255 := bB BK255 hb
         replace HB := bS2 HB GE222 GE255 hb
         (try clear hb)
         (try clear hb2)
         (try clear hk)
         (try clear hi)
         refine hK.out _ _ ⟨bcl BK222 0, bcl BK222 1, bcl BK222 2, (xb HB hw241_0), (xb HB hw241_1), (xb HB hw241_2), (xb HB hw241_3), (xb HB hw241_4), (xb HB hw241_5), HS9_, HS10_, HS11_, HS12_, HS13_, HS14_⟩ (fun hHeld => ?_)
         clear hK K
         refine norm_ (a' := ?_) ?_ ?_
         rotate_left
         ·show Act.put _ (some 35) _ = _
          simp only [Act.put, sA, sB, sC, i64_w, i32_w]
          rfl
         refine ro 10 (some 36) (bT 13 12) HT_ (fun K hK => ?_)
         refine gs Try.func18 #[.agg #[.int .i64 a0_0, .int .i64 a0_1, .int .i64 a0_2], .agg #[.int .i64 t243, .int .i64 t244, .int .i64 t245, .int .i64 t246, .int .i64 t247, .int .i64 t248]] ?_
         with_reducible refine (spec_l06Reduce.calls _ _ _ _ _ _ _ _ _ _ _ _ _ _ _ _ A19.out).mono ?_
         rintro e w26 ⟨rfl, hb⟩
         have HS9_ := hbc hb (hHeld.2.2.2.2.2.2.2.2.2.1)
         have HS10_ := hbc hb (hHeld.2.2.2.2.2.2.2.2.2.2.1)
         have HS11_ := hbc hb (hHeld.2.2.2.2.2.2.2.2.2.2.2.1)
         have HS12_ := hbc hb (hHeld.2.2.2.2.2.2.2.2.2.2.2.2.1)
         have HS13_ := hbc hb (hHeld.2.2.2.2.2.2.2.2.2.2.2.2.2.1)
         have HS14_ := hbc hb (hHeld.2.2.2.2.2.2.2.2.2.2.2.2.2.2)
         refine ⟨_, rfl, ?_⟩
         replace HO_5 := asd (Kd.R_below (kr HO_5) hb)
         replace HO_6 := asd (Kd.R_below (kr HO_6) hb)
         replace BK222 := bB BK222 hb
         replace BK255 := bB BK255 hb
         replace HB := bS2 HB GE222 GE255 hb
         (try clear hb)
         (try clear hb2)
         (try clear hk)
         (try clear hi)
         refine hK.out _ _ ⟨bcl BK222 0, bcl BK222 1, bcl BK222 2, (xb HB hw241_0), (xb HB hw241_1), (xb HB hw241_2), (xb HB hw241_3), (xb HB hw241_4), (xb HB hw241_5), HS9_, HS10_, HS11_, HS12_, HS13_, HS14_⟩ (fun hHeld => ?_)
         clear hK K
         refine norm_ (a' := ?_) ?_ ?_
         rotate_left
         ·show Act.put _ (some 36) _ = _
          simp only [Act.put, sA, sB, sC, i64_w, i32_w]
          rfl
         exact norm_ (by simp only [putAll, Act.put, sA, sB, sC]) (hCont (gb255) _ ⟨hHeld, (kr HO_5), (kr HO_6), (bkp BK222), (bkp BK255), GW255.out, GE255.out, NB222_255.out, NB255_222.out, (bbw2 HB GE222 GE255)⟩)
       rintro gb255 w27 ⟨hS_, h0_, h1_, h2_, h3_, h4_, h5_, h6_, h7_, h8_⟩
       have n0_ : Aside0 (Kd.R k41 41 w27 w.heap.size (fun k_ => some k_ ≠ (.slice (some ad242) x6_2.length co23 : Value).ownBlock ∧ k_ ≠ gb255) u5 x5_2) := ⟨h0_⟩
       have n1_ : Aside0 (Kd.R k41 41 w27 w.heap.size (fun k_ => some k_ ≠ (u5 : Value).ownBlock ∧ k_ ≠ gb255) (.slice (some ad242) x6_2.length co23) x6_2) := ⟨h1_⟩
       have n2_ : Aside0 (w27.heap[gb222]? = some (.cells #[.int .i64 a0_0, .int .i64 a0_1, .int .i64 a0_2] 23 (0, 0))) := ⟨h2_⟩
       have n3_ : Aside0 (w27.heap[gb255]? = some (.cells #[.int .i64 0, .int .i64 0, .int .i64 0, .int .i64 0, .int .i64 0, .int .i64 0] 41 (0, 0))) := ⟨h3_⟩
       have n4_ : Aside0 (w.heap.size ≤ gb255) := ⟨h4_⟩
       have n5_ : Aside0 (w.heap.size ≤ gb255) := ⟨h5_⟩
       have n6_ : Aside0 (gb222 ≠ gb255) := ⟨h6_⟩
       have n7_ : Aside0 (gb255 ≠ gb222) := ⟨h7_⟩
       have n8_ : Aside0 (Below w.heap.size w w27) := ⟨h8_⟩
       clear HO_5
       clear HO_6
       clear BK222
       clear HB
       clear h0_ h1_ h2_ h3_ h4_ h5_ h6_ h7_ h8_
       have HO_5 := n0_
       have HO_6 := n1_
       have BK222 := n2_
       have BK255 := n3_
       have GW255 := n4_
       have GE255 := n5_
       have NB222_255 := n6_
       have NB255_222 := n7_
       have HB := n8_
       clear n0_ n1_ n2_ n3_ n4_ n5_ n6_ n7_ n8_
       have hHeld : w27.cell? ⟨gb222, 0, none⟩ = some (.int .i64 a0_0) ∧ w27.cell? ⟨gb222, 1, none⟩ = some (.int .i64 a0_1) ∧ w27.cell? ⟨gb222, 2, none⟩ = some (.int .i64 a0_2) ∧ w27.cell? (ad241.add ((x8_2).toNat * 6)) = some (.int .i64 ((rd_T41 l1 x8_2).f0.f0)) ∧ w27.cell? ⟨(ad241.add ((x8_2).toNat * 6)).block, (ad241.add ((x8_2).toNat * 6)).off + 1, none⟩ = some (.int .i64 ((rd_T41 l1 x8_2).f0.f1)) ∧ w27.cell? ⟨(ad241.add ((x8_2).toNat * 6)).block, (ad241.add ((x8_2).toNat * 6)).off + 2, none⟩ = some (.int .i64 ((rd_T41 l1 x8_2).f0.f2)) ∧ w27.cell? ⟨(ad241.add ((x8_2).toNat * 6)).block, (ad241.add ((x8_2).toNat * 6)).off + 3, none⟩ = some (.int .i64 ((rd_T41 l1 x8_2).f0.f3)) ∧ w27.cell? ⟨(ad241.add ((x8_2).toNat * 6)).block, (ad241.add ((x8_2).toNat * 6)).off + 4, none⟩ = some (.int .i64 ((rd_T41 l1 x8_2).f1.f0)) ∧ w27.cell? ⟨(ad241.add ((x8_2).toNat * 6)).block, (ad241.add ((x8_2).toNat * 6)).off + 5, none⟩ = some (.int .i64 ((rd_T41 l1 x8_2).f1.f1)) ∧ w27.cell? (ad242.add ((x7_1).toNat * 6)) = some (.int .i64 ((rd_T41 x6_2 x7_1).f0.f0)) ∧ w27.cell? ⟨(ad242.add ((x7_1).toNat * 6)).block, (ad242.add ((x7_1).toNat * 6)).off + 1, none⟩ = some (.int .i64 ((rd_T41 x6_2 x7_1).f0.f1)) ∧ w27.cell? ⟨(ad242.add ((x7_1).toNat * 6)).block, (ad242.add ((x7_1).toNat * 6)).off + 2, none⟩ = some (.int .i64 ((rd_T41 x6_2 x7_1).f0.f2)) ∧ w27.cell? ⟨(ad242.add ((x7_1).toNat * 6)).block, (ad242.add ((x7_1).toNat * 6)).off + 3, none⟩ = some (.int .i64 ((rd_T41 x6_2 x7_1).f0.f3)) ∧ w27.cell? ⟨(ad242.add ((x7_1).toNat * 6)).block, (ad242.add ((x7_1).toNat * 6)).off + 4, none⟩ = some (.int .i64 ((rd_T41 x6_2 x7_1).f1.f0)) ∧ w27.cell? ⟨(ad242.add ((x7_1).toNat * 6)).block, (ad242.add ((x7_1).toNat * 6)).off + 5, none⟩ = some (.int .i64 ((rd_T41 x6_2 x7_1).f1.f1)) := hS_
       refine norm_ (a' := ?_) ?_ ?_
       rotate_left
       ·simp only [putAll, Act.put, sA, sB, sC]
        rfl
       refine ro 12 (none) (bT 13 13) HT_ (fun K hK => ?_)
       have hs28 : w27.cell? ⟨gb255, 0, none⟩ = some (.int .i64 0) := bcl BK255 0
       have hfs28 := blk_frozen BK255.out 0
       have hns28_0 := NB222_255.out
       have hms28_0 := NB255_222.out
       have hs29 : w27.cell? ⟨gb255, 1, none⟩ = some (.int .i64 0) := bcl BK255 1
       have hfs29 := blk_frozen BK255.out 1
       have hns29_0 := NB222_255.out
       have hms29_0 := NB255_222.out
       have hs30 : w27.cell? ⟨gb255, 2, none⟩ = some (.int .i64 0) := bcl BK255 2
       have hfs30 := blk_frozen BK255.out 2
       have hns30_0 := NB222_255.out
       have hms30_0 := NB255_222.out
       have hs31 : w27.cell? ⟨gb255, 3, none⟩ = some (.int .i64 0) := bcl BK255 3
       have hfs31 := blk_frozen BK255.out 3
       have hns31_0 := NB222_255.out
       have hms31_0 := NB255_222.out
       have hs32 : w27.cell? ⟨gb255, 4, none⟩ = some (.int .i64 0) := bcl BK255 4
       have hfs32 := blk_frozen BK255.out 4
       have hns32_0 := NB222_255.out
       have hms32_0 := NB255_222.out
       have hs33 : w27.cell? ⟨gb255, 5, none⟩ = some (.int .i64 0) := bcl BK255 5
       have hfs33 := blk_frozen BK255.out 5
       have hns33_0 := NB222_255.out
       have hms33_0 := NB255_222.out
       refine skip_ (w1 := ?_) (by rfl) rfl ?_ ?_
       rotate_left
       ·go_simp
        rfl
       refine hK.out _ _ ⟨(cf6 NB222_255 (hHeld.1)), (cf6 NB222_255 (hHeld.2.1)), (cf6 NB222_255 (hHeld.2.2.1)), (fx6 (bn hw241_0 GW255) (hHeld.2.2.2.1)), (fx6 (bn hw241_1 GW255) (hHeld.2.2.2.2.1)), (fx6 (bn hw241_2 GW255) (hHeld.2.2.2.2.2.1)), (fx6 (bn hw241_3 GW255) (hHeld.2.2.2.2.2.2.1)), (fx6 (bn hw241_4 GW255) (hHeld.2.2.2.2.2.2.2.1)), (fx6 (bn hw241_5 GW255) (hHeld.2.2.2.2.2.2.2.2.1)), (fx6 (Kd.own_blk (Kd.R_away HO_6.out (fun _ hk => hk.2))) (hHeld.2.2.2.2.2.2.2.2.2.1)), (fx6 (Kd.own_blk (Kd.R_away HO_6.out (fun _ hk => hk.2))) (hHeld.2.2.2.2.2.2.2.2.2.2.1)), (fx6 (Kd.own_blk (Kd.R_away HO_6.out (fun _ hk => hk.2))) (hHeld.2.2.2.2.2.2.2.2.2.2.2.1)), (fx6 (Kd.own_blk (Kd.R_away HO_6.out (fun _ hk => hk.2))) (hHeld.2.2.2.2.2.2.2.2.2.2.2.2.1)), (fx6 (Kd.own_blk (Kd.R_away HO_6.out (fun _ hk => hk.2))) (hHeld.2.2.2.2.2.2.2.2.2.2.2.2.2.1)), (fx6 (Kd.own_blk (Kd.R_away HO_6.out (fun _ hk => hk.2))) (hHeld.2.2.2.2.2.2.2.2.2.2.2.2.2.2))⟩ (fun hHeld => ?_)
       clear hK K
       refine done_ (done_of HT_.out (by kernel_rfl)) ?_
       have hnb34 := NB255_222.out
       have hnc34 := NB222_255.out
       obtain ⟨hcz35_0, hcz35_1, hcz35_2, hcz35_3, hcz35_4, hcz35_5, hfz35_0, hfz35_1, hfz35_2, hfz35_3, hfz35_4, hfz35_5⟩ := bz6 BK255
       obtain ⟨Ao36, co36, eo36⟩ := Kd.R_slice HO_5.out
       subst eo36
      focus try go_wp2_with (first | ((with_reducible refine gate_callee (f := 20) rfl ?_); refine gl 39 Try.func20 #[.slice Ao36 x5_2.length co36, .agg #[.int .i64 t249, .int .i64 t250, .int .i64 t251, .int .i64 t252, .int .i64 t253, .int .i64 t254]] ?_; (with_reducible refine (spec_l06Has.calls _ _ _ _ _ _ _ _ _ _ _ _ ?side1 ?side2 A20.out).mono ?_); (case side1 => refine (Kd.R_reads' (e := 41) (base := w.heap.size) (ok := fun k_ => (some k_ ≠ (.slice (some ad242) x6_2.length co23 : Value).ownBlock ∧ k_ ≠ gb255)) (n := x5_2.length) (c := co36) ?_).2.2; exact (by (with_reducible repeat (first | apply Kd.R_alloc | apply Kd.R_drewN | apply Kd.R_drew)); exact (Kd.R_mono (rw6 (Kd.R_mono HO_5.out (fun k_ hk => (⟨hk, hk.2⟩ : _ ∧ k_ ≠ gb255)))) (fun _ h_ => h_.1)))); (case side2 => exact (Kd.R_reads' HO_5.out).2.1); rintro e w37 ⟨rfl, hb⟩; refine ⟨_, rfl, ?_⟩; replace HO_5 := asd (Kd.R_below (by (with_reducible repeat (first | apply Kd.R_alloc | apply Kd.R_drewN | apply Kd.R_drew)); exact (Kd.R_mono (rw6 (Kd.R_mono HO_5.out (fun k_ hk => (⟨hk, hk.2⟩ : _ ∧ k_ ≠ gb255)))) (fun _ h_ => h_.1))) hb); replace HO_6 := asd (Kd.R_below (by (with_reducible repeat (first | apply Kd.R_alloc | apply Kd.R_drewN | apply Kd.R_drew)); exact (Kd.R_mono (rw6 (Kd.R_mono HO_6.out (fun k_ hk => (⟨hk, hk.2⟩ : _ ∧ k_ ≠ gb255)))) (fun _ h_ => h_.1))) hb); replace BK222 := asd (blk_below (g := gb222) (o := .cells #[.int .i64 a0_0, .int .i64 a0_1, .int .i64 a0_2] 23 (0, 0)) (bq1 BK222 NB222_255) hb); replace BK255 := asd (blk_below (g := gb255) (o := .cells #[.int .i64 t249, .int .i64 t250, .int .i64 t251, .int .i64 t252, .int .i64 t253, .int .i64 t254] 41 (0, 0)) (bq0 BK255) hb); replace HB := bS2 HB GE222 GE255 hb; (try clear hb)))
      rotate_left
      focus try go_wp2_with (first | ((with_reducible refine gate_callee (f := 20) rfl ?_); refine gl 39 Try.func20 #[.slice Ao36 x5_2.length co36, .agg #[.int .i64 t249, .int .i64 t250, .int .i64 t251, .int .i64 t252, .int .i64 t253, .int .i64 t254]] ?_; (with_reducible refine (spec_l06Has.calls _ _ _ _ _ _ _ _ _ _ _ _ ?side1 ?side2 A20.out).mono ?_); (case side1 => refine (Kd.R_reads' (e := 41) (base := w.heap.size) (ok := fun k_ => (some k_ ≠ (.slice (some ad242) x6_2.length co23 : Value).ownBlock ∧ k_ ≠ gb255)) (n := x5_2.length) (c := co36) ?_).2.2; exact (by (with_reducible repeat (first | apply Kd.R_alloc | apply Kd.R_drewN | apply Kd.R_drew)); exact (Kd.R_mono (rw6 (Kd.R_mono HO_5.out (fun k_ hk => (⟨hk, hk.2⟩ : _ ∧ k_ ≠ gb255)))) (fun _ h_ => h_.1)))); (case side2 => exact (Kd.R_reads' HO_5.out).2.1); rintro e w55 ⟨rfl, hb⟩; refine ⟨_, rfl, ?_⟩; replace HO_5 := asd (Kd.R_below (by (with_reducible repeat (first | apply Kd.R_alloc | apply Kd.R_drewN | apply Kd.R_drew)); exact (Kd.R_mono (rw6 (Kd.R_mono HO_5.out (fun k_ hk => (⟨hk, hk.2⟩ : _ ∧ k_ ≠ gb255)))) (fun _ h_ => h_.1))) hb); replace HO_6 := asd (Kd.R_below (by (with_reducible repeat (first | apply Kd.R_alloc | apply Kd.R_drewN | apply Kd.R_drew)); exact (Kd.R_mono (rw6 (Kd.R_mono HO_6.out (fun k_ hk => (⟨hk, hk.2⟩ : _ ∧ k_ ≠ gb255)))) (fun _ h_ => h_.1))) hb); replace BK222 := asd (blk_below (g := gb222) (o := .cells #[.int .i64 a0_0, .int .i64 a0_1, .int .i64 a0_2] 23 (0, 0)) (bq1 BK222 NB222_255) hb); replace BK255 := asd (blk_below (g := gb255) (o := .cells #[.int .i64 t249, .int .i64 t250, .int .i64 t251, .int .i64 t252, .int .i64 t253, .int .i64 t254] 41 (0, 0)) (bq0 BK255) hb); replace HB := bS2 HB GE222 GE255 hb; (try clear hb); obtain ⟨hcz56_0, hcz56_1, hcz56_2, hcz56_3, hcz56_4, hcz56_5, hfz56_0, hfz56_1, hfz56_2, hfz56_3, hfz56_4, hfz56_5⟩ := bz6 BK255) | ((with_reducible refine gate_callee (f := 21) rfl ?_); refine spec_l06Insert.event (w0 := w) w.heap.size (some 43) rfl rfl (.tmp 41) (.tmp 42) rfl (.slice Ao36 x5_2.length co36) x5_2 (⟨(⟨t249, t250, t251, t252⟩ : S37), (⟨t253, t254⟩ : S39)⟩ : S41) (fun k_ => some k_ ≠ (.slice (some ad242) x6_2.length co23 : Value).ownBlock ∧ k_ ≠ gb255) rfl rfl ?aF ?aO ?aB ?aS ?aL ?_; (case aB => exact (bbw2 HB GE222 GE255)); (case aF => exact (fun k_ hk => ⟨Kd.fresh' (Kd.R_lt (kr HO_6)) k_ hk, Kd.freshB (g := gb255) (o := .cells #[.int .i64 t249, .int .i64 t250, .int .i64 t251, .int .i64 t252, .int .i64 t253, .int .i64 t254] 41 (0, 0)) (bkp BK255) k_ hk⟩)); (case aO => exact (kr HO_5)); (case aS => exact (bsz2 HB GE222 GE255)); (case aL => exact LMc38.out); intro v258 w57 ho hb hg hat; rw [← Ny257.out] at ho; have n0_ := asd (Kd.R_after (ok := (fun k_ => k_ ≠ gb255)) (by (with_reducible repeat (first | apply Kd.R_alloc | apply Kd.R_drewN | apply Kd.R_drew)); exact Kd.R_mono HO_6.out (fun _ hk => ⟨hk.2, hk.1⟩)) hg hat); have n1_ := asd (blk_grown (g := gb222) (o := .cells #[.int .i64 a0_0, .int .i64 a0_1, .int .i64 a0_2] 23 (0, 0)) (bkp BK222) hg (Kd.R_ne HO_5.out BK222.out (by decide))); have n2_ := asd (blk_grown (g := gb255) (o := .cells #[.int .i64 t249, .int .i64 t250, .int .i64 t251, .int .i64 t252, .int .i64 t253, .int .i64 t254] 41 (0, 0)) (bkp BK255) hg (Kd.R_away HO_5.out (fun _ hk => hk.2))); have n3_ := asd (hb); have n4_ := asd (ho); clear HO_6; clear BK222; clear BK255; clear HB; clear HO_5; have HO_6 := n0_; have BK222 := n1_; have BK255 := n2_; have HB := n3_; have HO259 := n4_; clear n0_ n1_ n2_ n3_ n4_; clear ho hb hg hat; obtain ⟨hcz58_0, hcz58_1, hcz58_2, hcz58_3, hcz58_4, hcz58_5, hfz58_0, hfz58_1, hfz58_2, hfz58_3, hfz58_4, hfz58_5⟩ := bz6 BK255) | ((with_reducible refine gate_builtin (b := .append) (xs := #[.tmp 44, .tmp 46]) rfl ?_); at_builtin; refine Kd.R_append k41 (w0 := w) w.heap.size rfl (.tmp 44) (.tmp 46) 24 41 (.agg #[(.int .i64 0), (.int .i64 0), (.int .i64 0), (.int .i64 0), (.int .i64 0), (.int .i64 0)]) 48 rfl Try.underlying24 info41 rfl (by decide) (by omega) (.slice (some ad242) x6_2.length co23) x6_2 (⟨(⟨t249, t250, t251, t252⟩ : S37), (⟨t253, t254⟩ : S39)⟩ : S41) [.int .i64 t249, .int .i64 t250, .int .i64 t251, .int .i64 t252, .int .i64 t253, .int .i64 t254] (fun k_ => some k_ ≠ (v258 : Value).ownBlock ∧ k_ ≠ gb255) (fun _ => False) rfl rfl ?aP (fun _ hk => hk.elim) ?aF ?aO ?aB ?aS ?aL ?_; (case aP => exact k41_mkM _ _ _ (⟨(⟨t249, t250, t251, t252⟩ : S37), (⟨t253, t254⟩ : S39)⟩ : S41)); (case aB => exact (bbw2 HB GE222 GE255)); (case aF => exact (fun k_ hk => ⟨Kd.fresh' (Kd.R_lt (kr HO259)) k_ hk, Kd.freshB (g := gb255) (o := .cells #[.int .i64 t249, .int .i64 t250, .int .i64 t251, .int .i64 t252, .int .i64 t253, .int .i64 t254] 41 (0, 0)) (bkp BK255) k_ hk⟩)); (case aO => exact (by (with_reducible repeat (first | apply Kd.R_alloc | apply Kd.R_drewN | apply Kd.R_drew)); exact Kd.R_mono HO_6.out (fun _ hk => ⟨hk.2, hk.1⟩))); (case aS => exact (bsz2 HB GE222 GE255)); (case aL => have := LMc39.out; omega); intro v261 w59 ho hb hg hat; rw [← Ny260.out] at ho; have n0_ := asd (blk_grown (g := gb222) (o := .cells #[.int .i64 a0_0, .int .i64 a0_1, .int .i64 a0_2] 23 (0, 0)) (bkp BK222) hg (Kd.R_ne HO_6.out BK222.out (by decide))); have n1_ := asd (blk_grown (g := gb255) (o := .cells #[.int .i64 t249, .int .i64 t250, .int .i64 t251, .int .i64 t252, .int .i64 t253, .int .i64 t254] 41 (0, 0)) (bkp BK255) hg (Kd.R_away HO_6.out (fun _ hk => hk.1))); have n2_ := asd (Kd.R_after (ok := (fun k_ => k_ ≠ gb255)) (by (with_reducible repeat (first | apply Kd.R_alloc | apply Kd.R_drewN | apply Kd.R_drew)); exact Kd.R_mono HO259.out (fun _ hk => ⟨hk.2, hk.1⟩)) hg hat); have n3_ := asd (hb); have n4_ := asd (ho); clear BK222; clear BK255; clear HO259; clear HB; clear HO_6; have BK222 := n0_; have BK255 := n1_; have HO259 := n2_; have HB := n3_; have HO262 := n4_; clear n0_ n1_ n2_ n3_ n4_; clear ho hb hg hat))
      rotate_left
      all_goals
       go_roundg k2
       case measure => have := HK1.out; have := HK2.out; omega
      ·case rel => exact ⟨(x5_2), (x6_2), (wrap64 (x8_2 + 1)), (by first | rfl | (simp; done) | (simp [*]; done)), H', ⟨by have := HK1.out; have := HK2.out; omega⟩, ⟨by (with_reducible repeat (first | apply Kd.R_alloc | apply Kd.R_drewN | apply Kd.R_drew)); exact Kd.R_mono HO_5.out (fun _ hk => hk.1)⟩, ⟨by (with_reducible repeat (first | apply Kd.R_alloc | apply Kd.R_drewN | apply Kd.R_drew)); exact Kd.R_mono HO_6.out (fun _ hk => hk.1)⟩, ⟨bkp BK222⟩, ⟨bbw2 HB GE222 GE255⟩⟩
      ·case rel => exact ⟨(y257), (y260), (wrap64 (x8_2 + 1)), (by first | rfl | (simp; done) | (simp [*]; done)), H', ⟨by have := HK1.out; have := HK2.out; omega⟩, ⟨by (with_reducible repeat (first | apply Kd.R_alloc | apply Kd.R_drewN | apply Kd.R_drew)); exact Kd.R_mono HO259.out (fun _ hk => hk.2)⟩, ⟨by (with_reducible repeat (first | apply Kd.R_alloc | apply Kd.R_drewN | apply Kd.R_drew)); exact Kd.R_mono HO262.out (fun _ hk => hk.1)⟩, ⟨bkp BK222⟩, ⟨bbw2 HB GE222 GE255⟩⟩
   ·rw [if_neg c12] at H
    have c12b0 := decide_eq_false c12
    clear c12
    obtain rfl := Option.some.inj H
    obtain ⟨Ao60, co60, eo60⟩ := Kd.R_slice HO_6.out
    subst eo60
    go_wp2
    go_ret
    exact ⟨_, by first | rfl | (simp [errW_none, errW_some] <;> rfl) | (simp [*, errW_none, errW_some] <;> rfl), by (with_reducible repeat (first | apply Kd.R_alloc | apply Kd.R_drewN | apply Kd.R_drew)); exact Kd.R_mono HO_5.out (fun _ hk => trivial), bbw1 HB GE222⟩

end Go.Proofs.Ytdodghjnlekgeaa.PA
