import Derived.Test.YtdodghjnlekgeaaGreatPAx0
import Derived.Test.YtdodghjnlekgeaaGreatPAx6
import Derived.Test.YtdodghjnlekgeaaGreatPAx7
namespace Go.Proofs.YtdodghjnlekgeaaGreat.PA
open Go.RowKit Go.Proofs.YtdodghjnlekgeaaGreatW.PrintWords Go.Proofs.YtdodghjnlekgeaaGreatW.PrintLast Go.Proofs.YtdodghjnlekgeaaGreatW.PrintMore
attribute [local go_sem] max2_int min2_int max_two min_two max_three min_three max_four min_four   -- for this text's walks alone
set_option linter.unusedVariables false
set_option linter.unusedSimpArgs false
mutual
def spec_l06Close.l0 : Nat → List (S48) → List (S48) → List (S48) → Int → Int → Int → Int → Option ((List (S48)))
 | 0, _, _, _, _, _, _, _ => none
 | k + 1, x1, x5, x6, x7, x219000, x219001, x219002 => if x7 < (x6.length : Int) then (spec_l06Close.l1 k x1 x5 x6 x7 0 x219000 x219001 x219002) else (some x5)
def spec_l06Close.l1 : Nat → List (S48) → List (S48) → List (S48) → Int → Int → Int → Int → Int → Option ((List (S48)))
 | 0, _, _, _, _, _, _, _, _ => none
 | k + 1, x1, x5, x6, x7, x8, x219000, x219001, x219002 => if x8 < (x1.length : Int) then (if 0 ≤ x8 then (if 0 ≤ x7 then (if x7 < (x6.length : Int) then ((spec_l05Compose.f ((rd_T48 x1 x8).f0.f0) ((rd_T48 x1 x8).f0.f1) ((rd_T48 x1 x8).f0.f2) ((rd_T48 x1 x8).f0.f3) ((rd_T48 x1 x8).f1.f0) ((rd_T48 x1 x8).f1.f1) ((rd_T48 x6 x7).f0.f0) ((rd_T48 x6 x7).f0.f1) ((rd_T48 x6 x7).f0.f2) ((rd_T48 x6 x7).f0.f3) ((rd_T48 x6 x7).f1.f0) ((rd_T48 x6 x7).f1.f1)).bind fun bt239 => ((spec_l06Reduce.f x219000 x219001 x219002 bt239.1 bt239.2.1 bt239.2.2.1 bt239.2.2.2.1 bt239.2.2.2.2.1 bt239.2.2.2.2.2).bind fun bt245 => ((spec_l06Has.f k x5 bt245.1 bt245.2.1 bt245.2.2.1 bt245.2.2.2.1 bt245.2.2.2.2.1 bt245.2.2.2.2.2).bind fun t252 => (if t252 = true then (spec_l06Close.l1 k x1 x5 x6 x7 (wrap64 (x8 + 1)) x219000 x219001 x219002) else (if (x5.length < 2932031007402 ∧ spec_l06Insert.ok x5 (⟨(⟨bt245.1, bt245.2.1, bt245.2.2.1, bt245.2.2.2.1⟩ : S46), (⟨bt245.2.2.2.2.1, bt245.2.2.2.2.2⟩ : S38)⟩ : S48) = true) then (if x6.length < 2932031007402 then (spec_l06Close.l1 k x1 (spec_l06Insert.ins x5 (⟨(⟨bt245.1, bt245.2.1, bt245.2.2.1, bt245.2.2.2.1⟩ : S46), (⟨bt245.2.2.2.2.1, bt245.2.2.2.2.2⟩ : S38)⟩ : S48)) (x6 ++ [(⟨(⟨bt245.1, bt245.2.1, bt245.2.2.1, bt245.2.2.2.1⟩ : S46), (⟨bt245.2.2.2.2.1, bt245.2.2.2.2.2⟩ : S38)⟩ : S48)]) x7 (wrap64 (x8 + 1)) x219000 x219001 x219002) else (none)) else (none)))))) else (none)) else (none)) else (none)) else (spec_l06Close.l0 k x1 x5 x6 (wrap64 (x7 + 1)) x219000 x219001 x219002)
end
def spec_l06Close.f (k : Nat) (a0_0 : Int) (a0_1 : Int) (a0_2 : Int) (l1 : List (S48)) : Option ((List (S48))) := (spec_l06Unit.f).bind fun bt219 => ((spec_l06Unit.f).bind fun bt228 => (spec_l06Close.l0 k l1 (([(⟨(⟨bt219.1, bt219.2.1, bt219.2.2.1, bt219.2.2.2.1⟩ : S46), (⟨bt219.2.2.2.2.1, bt219.2.2.2.2.2⟩ : S38)⟩ : S48)] : List (S48))) (([(⟨(⟨bt228.1, bt228.2.1, bt228.2.2.1, bt228.2.2.2.1⟩ : S46), (⟨bt228.2.2.2.2.1, bt228.2.2.2.2.2⟩ : S38)⟩ : S48)] : List (S48))) 0 a0_0 a0_1 a0_2))
def spec_l06Close.T9 : Bool × List (List Nat × List Nat) := (true, [([], []), ([], []), ([], []), ([1, 2], [1, 2]), ([3], [3]), ([], []), ([], []), ([5, 6], [5, 6]), ([7], [7]), ([4, 8], [4, 8]), ([0, 9, 9], [0, 9]), ([], []), ([11, 10, 10, 0, 1, 2, 3, 4, 5, 6, 7, 8, 9, 10, 11], [10, 11])])
def spec_l06Close.B9 : List Nat := [0, 0, 0, 6, 14, 0, 0, 96, 224, 510, 1023, 0, 4095]
theorem spec_l06Close.tab9 : rtab .any (opsOf Tryz.f32 9) = spec_l06Close.T9 := by kernel_rfl
theorem spec_l06Close.bits9 : waitsOk spec_l06Close.T9.2 spec_l06Close.B9 = true := by kernel_rfl
set_option maxHeartbeats 80000000 in
set_option maxRecDepth 100000 in
theorem spec_l06Close.calls (k : Nat) (a0_0 : Int) (a0_1 : Int) (a0_2 : Int) (A1 : Option Addr) (c1 : Nat) (l1 : List (S48)) (r : List (S48)) (w : World) (hr1 : Kd.C k48 w A1 l1.length l1) (hc1 : l1.length ≤ c1) (h : spec_l06Close.f k a0_0 a0_1 a0_2 l1 = some r) :
  Calls Tryz.prog 32 #[.agg #[.int .i64 a0_0, .int .i64 a0_1, .int .i64 a0_2], .slice A1 l1.length c1] w fun e w' => ∃ v0_ : Value, e = .returned (v0_) ∧ Kd.R k48 48 w' w.heap.size (fun _ => True) v0_ r ∧ Below w.heap.size w w' := by
 have hu29 := Tryz.underlying29
 have hu48 := Tryz.underlying48
 have HR1 := Aside0.mk hr1
 have HC1 := Aside0.mk hc1
 clear hr1 hc1
 have HB := asd (Below.refl w.heap.size w)
 have H : ((spec_l06Unit.f).bind fun bt219 => ((spec_l06Unit.f).bind fun bt228 => (spec_l06Close.l0 k l1 (([(⟨(⟨bt219.1, bt219.2.1, bt219.2.2.1, bt219.2.2.2.1⟩ : S46), (⟨bt219.2.2.2.2.1, bt219.2.2.2.2.2⟩ : S38)⟩ : S48)] : List (S48))) (([(⟨(⟨bt228.1, bt228.2.1, bt228.2.2.1, bt228.2.2.2.1⟩ : S46), (⟨bt228.2.2.2.2.1, bt228.2.2.2.2.2⟩ : S38)⟩ : S48)] : List (S48))) 0 a0_0 a0_1 a0_2))) = some r := h
 clear h
 obtain ⟨⟨t219, t220, t221, t222, t223, t224⟩, A3, H⟩ := ob H
 try dsimp only at H
 obtain ⟨y225, hy225⟩ : ∃ y_ : List (S48), y_ = (([(⟨(⟨t219, t220, t221, t222⟩ : S46), (⟨t223, t224⟩ : S38)⟩ : S48)] : List (S48))) := ⟨_, rfl⟩
 replace H : ((spec_l06Unit.f).bind fun bt228 => (spec_l06Close.l0 k l1 y225 (([(⟨(⟨bt228.1, bt228.2.1, bt228.2.2.1, bt228.2.2.2.1⟩ : S46), (⟨bt228.2.2.2.2.1, bt228.2.2.2.2.2⟩ : S38)⟩ : S48)] : List (S48))) 0 a0_0 a0_1 a0_2)) = some r := by first | (rw [hy225]; with_reducible exact H) | (have H2_ := (Option.bind_some _ _).symm.trans H; rw [hy225]; with_reducible exact H2_) | (have H2_ := (Option.bind_some _ _).symm.trans H; with_reducible exact H2_) | with_reducible exact H | (rw [hy225]; exact H) | exact H
 have Ny225 := Aside0.mk hy225
 clear hy225
 obtain ⟨⟨t228, t229, t230, t231, t232, t233⟩, A4, H⟩ := ob H
 try dsimp only at H
 obtain ⟨y234, hy234⟩ : ∃ y_ : List (S48), y_ = (([(⟨(⟨t228, t229, t230, t231⟩ : S46), (⟨t232, t233⟩ : S38)⟩ : S48)] : List (S48))) := ⟨_, rfl⟩
 replace H : (spec_l06Close.l0 k l1 y225 y234 0 a0_0 a0_1 a0_2) = some r := by first | (rw [hy234]; with_reducible exact H) | (have H2_ := (Option.bind_some _ _).symm.trans H; rw [hy234]; with_reducible exact H2_) | (have H2_ := (Option.bind_some _ _).symm.trans H; with_reducible exact H2_) | with_reducible exact H | (rw [hy234]; exact H) | exact H
 have Ny234 := Aside0.mk hy234
 clear hy234
 have H' := Aside0.mk H
 clear H
 go_enter Tryz.func32, Tryz.ntmps32
 go_wp2_with (first | ((with_reducible refine gd 2 rfl ?_); refine bx #[.int .i64 a0_0, .int .i64 a0_1, .int .i64 a0_2] 29 ?_; intro gb218 hg w5 BK218 hb; have GE218 := ngw0 hg HB; replace HB := bS0 HB hb; clear hb hg) | ((with_reducible refine gate_callee (f := 64) rfl ?_); refine gl 10 Tryz.func64 #[] ?_; (with_reducible refine (spec_l06Unit.calls _ _ _ _ _ _ _ A3.out).mono ?_); rintro e w6 ⟨rfl, hb⟩; refine ⟨_, rfl, ?_⟩; replace BK218 := bB BK218 hb; replace HB := bS1 HB GE218 hb; (try clear hb)) | ((with_reducible refine gd 11 rfl ?_); refine Kd.R_lit k48 _ 48 ?hg (N := 11) ?hd (xs := ([(⟨(⟨t219, t220, t221, t222⟩ : S46), (⟨t223, t224⟩ : S38)⟩ : S48)] : List (S48))) (inner := [.int .i64 t219, .int .i64 t220, .int .i64 t221, .int .i64 t222, .int .i64 t223, .int .i64 t224]) (ok := fun _ => True) (okp := fun _ => True) ?hr ?hp (fun _ hk => hk) trivial (Below.refl _ _) (Nat.le_refl _) (by simp) ?_; (case hd => rfl); (case hg => rfl); (case hr => first | (go_simp; done) | (go_simp; rfl)); (case hp => exact (Reps.c6 (show Kd.M k48 _ _ _ (⟨(⟨t219, t220, t221, t222⟩ : S46), (⟨t223, t224⟩ : S38)⟩ : S48) [.int .i64 t219, .int .i64 t220, .int .i64 t221, .int .i64 t222, .int .i64 t223, .int .i64 t224] from (k48_mkM _ _ _ (⟨(⟨t219, t220, t221, t222⟩ : S46), (⟨t223, t224⟩ : S38)⟩ : S48) )) (Reps.none _ _))); intro v226 w7 ho8 hb hg_ hnew_; clear hg_ hnew_; (first | rw [← Ny225.out] at ho8 | (simp only [Int.reduceToNat] at ho8; rw [← Ny225.out] at ho8)); have HO227 := asd (Kd.R_lower ho8 (bsz1 HB GE218)); replace BK218 := bB BK218 hb; replace HB := bS1 HB GE218 hb; clear hb ho8) | ((with_reducible refine gate_callee (f := 64) rfl ?_); refine gl 12 Tryz.func64 #[] ?_; (with_reducible refine (spec_l06Unit.calls _ _ _ _ _ _ _ A4.out).mono ?_); rintro e w9 ⟨rfl, hb⟩; refine ⟨_, rfl, ?_⟩; replace HO227 := asd (Kd.R_below (kr HO227) hb); replace BK218 := bB BK218 hb; replace HB := bS1 HB GE218 hb; (try clear hb)) | ((with_reducible refine gd 13 rfl ?_); refine Kd.R_lit k48 _ 48 ?hg (N := 13) ?hd (xs := ([(⟨(⟨t228, t229, t230, t231⟩ : S46), (⟨t232, t233⟩ : S38)⟩ : S48)] : List (S48))) (inner := [.int .i64 t228, .int .i64 t229, .int .i64 t230, .int .i64 t231, .int .i64 t232, .int .i64 t233]) (ok := fun _ => True) (okp := fun _ => True) ?hr ?hp (fun _ hk => hk) trivial (Below.refl _ _) (Nat.le_refl _) (by simp) ?_; (case hd => rfl); (case hg => rfl); (case hr => first | (go_simp; done) | (go_simp; rfl)); (case hp => exact (Reps.c6 (show Kd.M k48 _ _ _ (⟨(⟨t228, t229, t230, t231⟩ : S46), (⟨t232, t233⟩ : S38)⟩ : S48) [.int .i64 t228, .int .i64 t229, .int .i64 t230, .int .i64 t231, .int .i64 t232, .int .i64 t233] from (k48_mkM _ _ _ (⟨(⟨t228, t229, t230, t231⟩ : S46), (⟨t232, t233⟩ : S38)⟩ : S48) )) (Reps.none _ _))); intro v235 w10 ho11 hb hg_ hnew_; clear hg_ hnew_; (first | rw [← Ny234.out] at ho11 | (simp only [Int.reduceToNat] at ho11; rw [← Ny234.out] at ho11)); have HO236 := asd (Kd.R_lower (Kd.R_new' ho11 (Kd.R_lt (kr HO227))) (bsz1 HB GE218)); replace HO227 := asd (Kd.R_elder' (kr HO227) (Kd.R_base ho11) hb); replace BK218 := bB BK218 hb; replace HB := bS1 HB GE218 hb; clear hb ho11))
 go_loopg [5, 6, 7] k (fun kq v5 v6 v7 w' => ∃ (x5_1 : List (S48)) (x6_1 : List (S48)) (x7_1 : Int), v7 = .int .i64 x7_1 ∧ Aside0 (spec_l06Close.l0 kq l1 x5_1 x6_1 x7_1 a0_0 a0_1 a0_2 = some r) ∧ Aside0 (kq ≤ k) ∧ Aside0 (Kd.R k48 48 w' w.heap.size (fun k_ => some k_ ≠ (v6 : Value).ownBlock) v5 x5_1) ∧ Aside0 (Kd.R k48 48 w' w.heap.size (fun k_ => some k_ ≠ (v5 : Value).ownBlock) v6 x6_1) ∧ Aside0 (w'.heap[gb218]? = some (.cells #[.int .i64 a0_0, .int .i64 a0_1, .int .i64 a0_2] 29 (0, 0))) ∧ Aside0 (Below w.heap.size w w'))
 case atStart => exact ⟨(y225), (y234), (0), (by first | rfl | (simp; done) | (simp [*]; done)), H', ⟨Nat.le_refl _⟩, ⟨by (with_reducible repeat (first | apply Kd.R_alloc | apply Kd.R_drewN | apply Kd.R_drew)); exact Kd.R_mono HO227.out (fun _ hk => hk.2)⟩, ⟨by (with_reducible repeat (first | apply Kd.R_alloc | apply Kd.R_drewN | apply Kd.R_drew)); exact Kd.R_mono HO236.out (fun _ hk => hk.2)⟩, ⟨bkp BK218⟩, ⟨bbw1 HB GE218⟩⟩
 case round =>
  clear H'
  try clear c1
  try clear p2
  try clear c3
  try clear c6
  obtain ⟨x5_1, x6_1, x7_1, rfl, HA, HK1, HO_5, HO_6, BK218, HB⟩ := hrel
  cases gk with
  | zero => exact absurd HA.out (by simp [spec_l06Close.l0])
  | succ k1 =>
   have H := HA.out
   clear HA
   simp only [spec_l06Close.l0] at H
   by_cases c12 : x7_1 < (x6_1.length : Int)
   ·rw [if_pos c12] at H
    have c12b0 := decide_eq_true c12
    clear c12
    have H' := Aside0.mk H
    clear H
    obtain ⟨Ao13, co13, eo13⟩ := Kd.R_slice HO_6.out
    subst eo13
    go_wp2
    go_loopg [5, 6, 8] k1 (fun kq v5 v6 v8 w' => ∃ (x5_2 : List (S48)) (x6_2 : List (S48)) (x8_2 : Int), v8 = .int .i64 x8_2 ∧ Aside0 (spec_l06Close.l1 kq l1 x5_2 x6_2 x7_1 x8_2 a0_0 a0_1 a0_2 = some r) ∧ Aside0 (kq ≤ k1) ∧ Aside0 (Kd.R k48 48 w' w.heap.size (fun k_ => some k_ ≠ (v6 : Value).ownBlock) v5 x5_2) ∧ Aside0 (Kd.R k48 48 w' w.heap.size (fun k_ => some k_ ≠ (v5 : Value).ownBlock) v6 x6_2) ∧ Aside0 (w'.heap[gb218]? = some (.cells #[.int .i64 a0_0, .int .i64 a0_1, .int .i64 a0_2] 29 (0, 0))) ∧ Aside0 (Below w.heap.size w w'))
    case atStart => exact ⟨(x5_1), (x6_1), (0), (by first | rfl | (simp; done) | (simp [*]; done)), H', ⟨Nat.le_refl _⟩, ⟨by (with_reducible repeat (first | apply Kd.R_alloc | apply Kd.R_drewN | apply Kd.R_drew)); exact HO_5.out⟩, ⟨by (with_reducible repeat (first | apply Kd.R_alloc | apply Kd.R_drewN | apply Kd.R_drew)); exact HO_6.out⟩, ⟨bkp BK218⟩, ⟨bbw1 HB GE218⟩⟩
    case round =>
     clear H'
     try clear c1
     try clear p2
     try clear c3
     try clear c6
     try clear c12
     try clear c12b0
     try clear p2
     obtain ⟨x5_2, x6_2, x8_2, rfl, HA, HK2, HO_5, HO_6, BK218, HB⟩ := hrel
     cases gk with
     | zero => exact absurd HA.out (by simp [spec_l06Close.l1])
     | succ k2 =>
      have H := HA.out
      clear HA
      simp only [spec_l06Close.l1] at H
      by_cases c14 : x8_2 < (l1.length : Int)
      rw [if_pos c14] at H
      have c14b0 := decide_eq_true c14
      clear c14
      by_cases c15 : 0 ≤ x8_2
      rw [if_pos c15] at H
      have c15b0 := decide_eq_true c15
      clear c15
      by_cases c16 : 0 ≤ x7_1
      rw [if_pos c16] at H
      have c16b0 := decide_eq_true c16
      clear c16
      by_cases c17 : x7_1 < (x6_2.length : Int)
      rw [if_pos c17] at H
      have c17b0 := decide_eq_true c17
      clear c17
      obtain ⟨⟨t239, t240, t241, t242, t243, t244⟩, A18, H⟩ := ob H
      try dsimp only at H
      obtain ⟨⟨t245, t246, t247, t248, t249, t250⟩, A19, H⟩ := ob H
      try dsimp only at H
      obtain ⟨t252, A20, H⟩ := ob H
      try dsimp only at H
      by_cases c21 : t252 = true
      subst c21
      replace H := ifT H
      have H' := Aside0.mk H
      clear H
      rotate_left
      replace c21 := Bool.eq_false_iff.mpr c21
      subst c21
      replace H := ifF H
      by_cases c38 : (x5_2.length < 2932031007402 ∧ spec_l06Insert.ok x5_2 (⟨(⟨t245, t246, t247, t248⟩ : S46), (⟨t249, t250⟩ : S38)⟩ : S48) = true)
      rw [if_pos c38] at H
      have LMc38 := Aside0.mk c38
      clear c38
      obtain ⟨y253, hy253⟩ : ∃ y_ : List (S48), y_ = (spec_l06Insert.ins x5_2 (⟨(⟨t245, t246, t247, t248⟩ : S46), (⟨t249, t250⟩ : S38)⟩ : S48)) := ⟨_, rfl⟩
      replace H : (if x6_2.length < 2932031007402 then (spec_l06Close.l1 k2 l1 y253 (x6_2 ++ [(⟨(⟨t245, t246, t247, t248⟩ : S46), (⟨t249, t250⟩ : S38)⟩ : S48)]) x7_1 (wrap64 (x8_2 + 1)) a0_0 a0_1 a0_2) else (none)) = some r := by first | (rw [hy253]; with_reducible exact H) | (have H2_ := (Option.bind_some _ _).symm.trans H; rw [hy253]; with_reducible exact H2_) | (have H2_ := (Option.bind_some _ _).symm.trans H; with_reducible exact H2_) | with_reducible exact H | (rw [hy253]; exact H) | exact H
      have Ny253 := Aside0.mk hy253
      clear hy253
      by_cases c39 : x6_2.length < 2932031007402
      rw [if_pos c39] at H
      have LMc39 := Aside0.mk c39
      clear c39
      obtain ⟨y256, hy256⟩ : ∃ y_ : List (S48), y_ = (x6_2 ++ [(⟨(⟨t245, t246, t247, t248⟩ : S46), (⟨t249, t250⟩ : S38)⟩ : S48)]) := ⟨_, rfl⟩
      replace H : (spec_l06Close.l1 k2 l1 y253 y256 x7_1 (wrap64 (x8_2 + 1)) a0_0 a0_1 a0_2) = some r := by first | (rw [hy256]; with_reducible exact H) | (have H2_ := (Option.bind_some _ _).symm.trans H; rw [hy256]; with_reducible exact H2_) | (have H2_ := (Option.bind_some _ _).symm.trans H; with_reducible exact H2_) | with_reducible exact H | (rw [hy256]; exact H) | exact H
      have Ny256 := Aside0.mk hy256
      clear hy256
      have H' := Aside0.mk H
      clear H
      rotate_left
      ·rw [if_neg c39] at H
       exact absurd H (by simp)
      ·rw [if_neg c38] at H
       exact absurd H (by simp)
      ·rw [if_neg c17] at H
       exact absurd H (by simp)
      ·rw [if_neg c16] at H
       exact absurd H (by simp)
      ·rw [if_neg c15] at H
       exact absurd H (by simp)
      rw [if_neg c14] at H
      have c14b0 := decide_eq_false c14
      clear c14
      have H' := Aside0.mk H
      clear H
      rotate_left
      rotate_left 2
      ·go_wp2
       go_roundg k2
       case measure => have := HK1.out; have := HK2.out; omega
       case rel => exact ⟨(x5_2), (x6_2), (wrap64 (x7_1 + 1)), (by first | rfl | (simp; done) | (simp [*]; done)), H', ⟨by have := HK1.out; have := HK2.out; omega⟩, ⟨by (with_reducible repeat (first | apply Kd.R_alloc | apply Kd.R_drewN | apply Kd.R_drew)); exact HO_5.out⟩, ⟨by (with_reducible repeat (first | apply Kd.R_alloc | apply Kd.R_drewN | apply Kd.R_drew)); exact HO_6.out⟩, ⟨bkp BK218⟩, ⟨bbw1 HB GE218⟩⟩
      all_goals
       try go_wp2
       replace HO_5 := asd (Kd.R_drew HO_5.out)
       replace HO_6 := asd (Kd.R_drew HO_6.out)
       replace BK218 := asd (blk_drew BK218.out)
       replace HB := asd (below_drew1 HB.out)
       obtain ⟨p237, q237, ad237, e237, hw237_0, hw237_1, hw237_2, hw237_3, hw237_4, hw237_5, hx237_0, hx237_1, hx237_2, hx237_3, hx237_4, hx237_5⟩ := at_T48w HR1.out HB x8_2
       cases e237
       obtain ⟨Ao23, co23, eo23⟩ := Kd.R_slice HO_6.out
       (first | subst eo23 | (injection eo23 with f1_ f2_ f3_; have f4_ := f1_.symm; have f5_ := f3_.symm; clear f1_ f2_ f3_; subst f4_; subst f5_))
       have p238 : 0 ≤ (x7_1 : Int) := od
       have q238 : x7_1 < (x6_2.length : Int) := od
       obtain ⟨ad238, e238, hx238_0, hx238_1, hx238_2, hx238_3, hx238_4, hx238_5⟩ := at_T48 (Kd.R_reads' HO_6.out).2.2 x7_1 p238 q238
       cases e238
       replace p238 := eq_true p238
       replace q238 := eq_true q238
       refine sh 13 (cb3 BK218 (cx6 HB hw237_0 hw237_1 hw237_2 hw237_3 hw237_4 hw237_5 (PA.c1 hx238_0 (PA.c1 hx238_1 (PA.c1 hx238_2 (PA.c1 hx238_3 (PA.c1 hx238_4 (PA.e1 hx238_5)))))))) (fun hHeld => ?_); refine with_tabW spec_l06Close.tab9 spec_l06Close.bits9 (fun HT_ HW_ => ?_)
       generalize wr.drew = w22 at HO_5 HO_6 BK218 HB hx237_0 hx237_1 hx237_2 hx237_3 hx237_4 hx237_5 hx238_0 hx238_1 hx238_2 hx238_3 hx238_4 hx238_5 hHeld ⊢
       refine pu 1 (some 27) (bs 13 2) HT_ ?_
       refine pu 2 (some 28) (bs 13 6) HT_ ?_
       refine pu 3 (some 29) (bs 13 14) HT_ ?_
       refine pu 5 (some 31) (bs 13 46) HT_ ?_
       refine pu 6 (some 32) (bs 13 110) HT_ ?_
       refine pu 7 (some 33) (bs 13 238) HT_ ?_
       refine ta 0 (some 26) (bs 13 239) HT_ HW_ hHeld ?_
       refine ta 4 (some 30) (bT 13 8) HT_ HW_ hHeld ?_
       refine ta 8 (some 34) (bT 13 9) HT_ HW_ hHeld ?_
       refine join_ (σ := Nat) 1 (bT 13 12) (fun s_ => [(35, .agg #[.int .i64 t239, .int .i64 t240, .int .i64 t241, .int .i64 t242, .int .i64 t243, .int .i64 t244]), (36, .agg #[.int .i64 t245, .int .i64 t246, .int .i64 t247, .int .i64 t248, .int .i64 t249, .int .i64 t250]), (9, .pointer (some ⟨s_, 0, none⟩))]) (fun s_ w' => (w'.cell? ⟨gb218, 0, none⟩ = some (.int .i64 a0_0) ∧ w'.cell? ⟨gb218, 1, none⟩ = some (.int .i64 a0_1) ∧ w'.cell? ⟨gb218, 2, none⟩ = some (.int .i64 a0_2) ∧ w'.cell? (ad237.add ((x8_2).toNat * 6)) = some (.int .i64 ((rd_T48 l1 x8_2).f0.f0)) ∧ w'.cell? ⟨(ad237.add ((x8_2).toNat * 6)).block, (ad237.add ((x8_2).toNat * 6)).off + 1, none⟩ = some (.int .i64 ((rd_T48 l1 x8_2).f0.f1)) ∧ w'.cell? ⟨(ad237.add ((x8_2).toNat * 6)).block, (ad237.add ((x8_2).toNat * 6)).off + 2, none⟩ = some (.int .i64 ((rd_T48 l1 x8_2).f0.f2)) ∧ w'.cell? ⟨(ad237.add ((x8_2).toNat * 6)).block, (ad237.add ((x8_2).toNat * 6)).off + 3, none⟩ = some (.int .i64 ((rd_T48 l1 x8_2).f0.f3)) ∧ w'.cell? ⟨(ad237.add ((x8_2).toNat * 6)).block, (ad237.add ((x8_2).toNat * 6)).off + 4, none⟩ = some (.int .i64 ((rd_T48 l1 x8_2).f1.f0)) ∧ w'.cell? ⟨(ad237.add ((x8_2).toNat * 6)).block, (ad237.add ((x8_2).toNat * 6)).off + 5, none⟩ = some (.int .i64 ((rd_T48 l1 x8_2).f1.f1)) ∧ w'.cell? (ad238.add ((x7_1).toNat * 6)) = some (.int .i64 ((rd_T48 x6_2 x7_1).f0.f0)) ∧ w'.cell? ⟨(ad238.add ((x7_1).toNat * 6)).block, (ad238.add ((x7_1).toNat * 6)).off + 1, none⟩ = some (.int .i64 ((rd_T48 x6_2 x7_1).f0.f1)) ∧ w'.cell? ⟨(ad238.add ((x7_1).toNat * 6)).block, (ad238.add ((x7_1).toNat * 6)).off + 2, none⟩ = some (.int .i64 ((rd_T48 x6_2 x7_1).f0.f2)) ∧ w'.cell? ⟨(ad238.add ((x7_1).toNat * 6)).block, (ad238.add ((x7_1).toNat * 6)).off + 3, none⟩ = some (.int .i64 ((rd_T48 x6_2 x7_1).f0.f3)) ∧ w'.cell? ⟨(ad238.add ((x7_1).toNat * 6)).block, (ad238.add ((x7_1).toNat * 6)).off + 4, none⟩ = some (.int .i64 ((rd_T48 x6_2 x7_1).f1.f0)) ∧ w'.cell? ⟨(ad238.add ((x7_1).toNat * 6)).block, (ad238.add ((x7_1).toNat * 6)).off + 5, none⟩ = some (.int .i64 ((rd_T48 x6_2 x7_1).f1.f1))) ∧ (Kd.R k48 48 w' w.heap.size (fun k_ => some k_ ≠ (.slice (some ad238) x6_2.length co23 : Value).ownBlock ∧ k_ ≠ s_) u5 x5_2) ∧ (Kd.R k48 48 w' w.heap.size (fun k_ => some k_ ≠ (u5 : Value).ownBlock ∧ k_ ≠ s_) (.slice (some ad238) x6_2.length co23) x6_2) ∧ (w'.heap[gb218]? = some (.cells #[.int .i64 a0_0, .int .i64 a0_1, .int .i64 a0_2] 29 (0, 0))) ∧ (w'.heap[s_]? = some (.cells #[.int .i64 0, .int .i64 0, .int .i64 0, .int .i64 0, .int .i64 0, .int .i64 0] 48 (0, 0))) ∧ (w.heap.size ≤ s_) ∧ (w.heap.size ≤ s_) ∧ (gb218 ≠ s_) ∧ (s_ ≠ gb218) ∧ (Below w.heap.size w w')) ?_ ?_
       rotate_left
       ·intro hCont
        refine two_ (i := 9) (j := 11) (Ni := some 35) (Nj := some 9) (bT 13 10) (bs 13 2559) rfl rfl rfl rfl (two_of HT_.out (by kernel_rfl)) (by decide) (by decide) (fun K hK => ?_) (fun K hK => ?_)
        ·skip
         refine gs Tryz.func65 #[.agg #[.int .i64 ((rd_T48 l1 x8_2).f0.f0), .int .i64 ((rd_T48 l1 x8_2).f0.f1), .int .i64 ((rd_T48 l1 x8_2).f0.f2), .int .i64 ((rd_T48 l1 x8_2).f0.f3), .int .i64 ((rd_T48 l1 x8_2).f1.f0), .int .i64 ((rd_T48 l1 x8_2).f1.f1)], .agg #[.int .i64 ((rd_T48 x6_2 x7_1).f0.f0), .int .i64 ((rd_T48 x6_2 x7_1).f0.f1), .int .i64 ((rd_T48 x6_2 x7_1).f0.f2), .int .i64 ((rd_T48 x6_2 x7_1).f0.f3), .int .i64 ((rd_T48 x6_2 x7_1).f1.f0), .int .i64 ((rd_T48 x6_2 x7_1).f1.f1)]] ?_
         with_reducible refine (spec_l05Compose.calls _ _ _ _ _ _ _ _ _ _ _ _ _ _ _ _ _ _ _ A18.out).mono ?_
         rintro e w24 ⟨rfl, hb⟩
         have HS9_ := hbc hb (hHeld.2.2.2.2.2.2.2.2.2.1)
         have HS10_ := hbc hb (hHeld.2.2.2.2.2.2.2.2.2.2.1)
         have HS11_ := hbc hb (hHeld.2.2.2.2.2.2.2.2.2.2.2.1)
         have HS12_ := hbc hb (hHeld.2.2.2.2.2.2.2.2.2.2.2.2.1)
         have HS13_ := hbc hb (hHeld.2.2.2.2.2.2.2.2.2.2.2.2.2.1)
         have HS14_ := hbc hb (hHeld.2.2.2.2.2.2.2.2.2.2.2.2.2.2)
         refine ⟨_, rfl, ?_⟩
         replace HO_5 := asd (Kd.R_below (kr HO_5) hb)
         replace HO_6 := asd (Kd.R_below (kr HO_6) hb)
         replace BK218 := bB BK218 hb
         replace HB := bS1 HB GE218 hb
         (try clear hb)
         (try clear hb2)
         (try clear hk)
         (try clear hi)
         refine hK.out _ _ ⟨bcl BK218 0, bcl BK218 1, bcl BK218 2, (xb HB hw237_0), (xb HB hw237_1), (xb HB hw237_2), (xb HB hw237_3), (xb HB hw237_4), (xb HB hw237_5), HS9_, HS10_, HS11_, HS12_, HS13_, HS14_⟩ (fun hHeld => ?_)
         clear hK K
         refine norm_ (a' := ?_) ?_ ?_
         rotate_left
         ·show Act.put _ (some 35) _ = _
          simp only [Act.put, sA, sB, sC, i64_w, i32_w]
          rfl
         refine two_ (i := 10) (j := 11) (Ni := some 36) (Nj := some 9) (bT 13 11) (bs 13 3071) rfl rfl rfl rfl (two_of HT_.out (by kernel_rfl)) (by decide) (by decide) (fun K hK => ?_) (fun K hK => ?_)
         ·skip
          refine gs Tryz.func30 #[.agg #[.int .i64 a0_0, .int .i64 a0_1, .int .i64 a0_2], .agg #[.int .i64 t239, .int .i64 t240, .int .i64 t241, .int .i64 t242, .int .i64 t243, .int .i64 t244]] ?_
          with_reducible refine (spec_l06Reduce.calls _ _ _ _ _ _ _ _ _ _ _ _ _ _ _ _ A19.out).mono ?_
          rintro e w25 ⟨rfl, hb⟩
          have HS9_ := hbc hb (hHeld.2.2.2.2.2.2.2.2.2.1)
          have HS10_ := hbc hb (hHeld.2.2.2.2.2.2.2.2.2.2.1)
          have HS11_ := hbc hb (hHeld.2.2.2.2.2.2.2.2.2.2.2.1)
          have HS12_ := hbc hb (hHeld.2.2.2.2.2.2.2.2.2.2.2.2.1)
          have HS13_ := hbc hb (hHeld.2.2.2.2.2.2.2.2.2.2.2.2.2.1)
          have HS14_ := hbc hb (hHeld.2.2.2.2.2.2.2.2.2.2.2.2.2.2)
          refine ⟨_, rfl, ?_⟩
          replace HO_5 := asd (Kd.R_below (kr HO_5) hb)
          replace HO_6 := asd (Kd.R_below (kr HO_6) hb)
          replace BK218 := bB BK218 hb
          replace HB := bS1 HB GE218 hb
          (try clear hb)
          (try clear hb2)
          (try clear hk)
          (try clear hi)
          refine hK.out _ _ ⟨bcl BK218 0, bcl BK218 1, bcl BK218 2, (xb HB hw237_0), (xb HB hw237_1), (xb HB hw237_2), (xb HB hw237_3), (xb HB hw237_4), (xb HB hw237_5), HS9_, HS10_, HS11_, HS12_, HS13_, HS14_⟩ (fun hHeld => ?_)
          clear hK K
          refine norm_ (a' := ?_) ?_ ?_
          rotate_left
          ·show Act.put _ (some 36) _ = _
           simp only [Act.put, sA, sB, sC, i64_w, i32_w]
           rfl
          refine ro 11 (some 9) (bT 13 12) HT_ (fun K hK => ?_)
          refine box_step ?hg (N := 9) ?hd (cs := #[.int .i64 0, .int .i64 0, .int .i64 0, .int .i64 0, .int .i64 0, .int .i64 0]) (t := 48) ?hr ?_; (case hd => rfl); (case hg => rfl); (case hr => first | (go_simp; done) | (go_simp; rfl))
          intro gb251 hg w26 hbox hb
          have HS9_ := hbc hb (hHeld.2.2.2.2.2.2.2.2.2.1)
          have HS10_ := hbc hb (hHeld.2.2.2.2.2.2.2.2.2.2.1)
          have HS11_ := hbc hb (hHeld.2.2.2.2.2.2.2.2.2.2.2.1)
          have HS12_ := hbc hb (hHeld.2.2.2.2.2.2.2.2.2.2.2.2.1)
          have HS13_ := hbc hb (hHeld.2.2.2.2.2.2.2.2.2.2.2.2.2.1)
          have HS14_ := hbc hb (hHeld.2.2.2.2.2.2.2.2.2.2.2.2.2.2)
          replace HO_5 := asd (Kd.R_below (Kd.R_elderB (kr HO_5) gb251 (Nat.le_of_eq hg.symm)) hb)
          replace HO_6 := asd (Kd.R_below (Kd.R_elderB (kr HO_6) gb251 (Nat.le_of_eq hg.symm)) hb)
          have BK251 := asd (hbox)
          have GW251 := ngw1 hg HB GE218
          have GE251 := ngw1 hg HB GE218
          replace HB := bS1 HB GE218 hb
          have NB218_251 := nlt hg BK218
          have NB251_218 := nsy (nlt hg BK218)
          replace BK218 := bB BK218 hb
          clear hb hbox hg
          refine hK.out _ _ ⟨bcl BK218 0, bcl BK218 1, bcl BK218 2, (xb HB hw237_0), (xb HB hw237_1), (xb HB hw237_2), (xb HB hw237_3), (xb HB hw237_4), (xb HB hw237_5), HS9_, HS10_, HS11_, HS12_, HS13_, HS14_⟩ (fun hHeld => ?_)
          clear hK K
          refine norm_ (a' := ?_) ?_ ?_
          rotate_left
          ·show Act.put _ (some 9) _ = _
           simp only [Act.put, sA, sB, sC, i64_w, i32_w]
           rfl
          exact norm_ (by simp only [putAll, Act.put, sA, sB, sC]) (hCont (gb251) _ ⟨hHeld, (kr HO_5), (kr HO_6), (bkp BK218), (bkp BK251), GW251.out, GE251.out, NB218_251.out, NB251_218.out, (bbw2 HB GE218 GE251)⟩)
         ·skip
          refine box_step ?hg (N := 9) ?hd (cs := #[.int .i64 0, .int .i64 0, .int .i64 0, .int .i64 0, .int .i64 0, .int .i64 0]) (t := 48) ?hr ?_; (case hd => rfl); (case hg => rfl); (case hr => first | (go_simp; done) | (go_simp; rfl))
          intro gb251 hg w25 hbox hb
          have HS9_ := hbc hb (hHeld.2.2.2.2.2.2.2.2.2.1)
          have HS10_ := hbc hb (hHeld.2.2.2.2.2.2.2.2.2.2.1)
          have HS11_ := hbc hb (hHeld.2.2.2.2.2.2.2.2.2.2.2.1)
          have HS12_ := hbc hb (hHeld.2.2.2.2.2.2.2.2.2.2.2.2.1)
          have HS13_ := hbc hb (hHeld.2.2.2.2.2.2.2.2.2.2.2.2.2.1)
          have HS14_ := hbc hb (hHeld.2.2.2.2.2.2.2.2.2.2.2.2.2.2)
          replace HO_5 := asd (Kd.R_below (Kd.R_elderB (kr HO_5) gb251 (Nat.le_of_eq hg.symm)) hb)
          replace HO_6 := asd (Kd.R_below (Kd.R_elderB (kr HO_6) gb251 (Nat.le_of_eq hg.symm)) hb)
          have BK251 := asd (hbox)
          have GW251 := ngw1 hg HB GE218
          have GE251 := ngw1 hg HB GE218
          replace HB := bS1 HB GE218 hb
          have NB218_251 := nlt hg BK218
          have NB251_218 := nsy (nlt hg BK218)
          replace BK218 := bB BK218 hb
          clear hb hbox hg
          refine hK.out _ _ ⟨bcl BK218 0, bcl BK218 1, bcl BK218 2, (xb HB hw237_0), (xb HB hw237_1), (xb HB hw237_2), (xb HB hw237_3), (xb HB hw237_4), (xb HB hw237_5), HS9_, HS10_, HS11_, HS12_, HS13_, HS14_⟩ (fun hHeld => ?_)
          clear hK K
          refine norm_ (a' := ?_) ?_ ?_
          rotate_left
          ·show Act.put _ (some 9) _ = _
           simp only [Act.put, sA, sB, sC, i64_w, i32_w]
           rfl
          refine ro 10 (some 36) (bT 13 12) HT_ (fun K hK => ?_)
          refine gs Tryz.func30 #[.agg #[.int .i64 a0_0, .int .i64 a0_1, .int .i64 a0_2], .agg #[.int .i64 t239, .int .i64 t240, .int .i64 t241, .int .i64 t242, .int .i64 t243, .int .i64 t244]] ?_
          with_reducible refine (spec_l06Reduce.calls _ _ _ _ _ _ _ _ _ _ _ _ _ _ _ _ A19.out).mono ?_
          rintro e w26 ⟨rfl, hb⟩
          have HS9_ := hbc hb (hHeld.2.2.2.2.2.2.2.2.2.1)
          have HS10_ := hbc hb (hHeld.2.2.2.2.2.2.2.2.2.2.1)
          have HS11_ := hbc hb (hHeld.2.2.2.2.2.2.2.2.2.2.2.1)
          have HS12_ := hbc hb (hHeld.2.2.2.2.2.2.2.2.2.2.2.2.1)
          have HS13_ := hbc hb (hHeld.2.2.2.2.2.2.2.2.2.2.2.2.2.1)
          have HS14_ := hbc hb (hHeld.2.2.2.2.2.2.2.2.2.2.2.2.2.2)
          refine ⟨_, rfl, ?_⟩
          replace HO_5 := asd (Kd.R_below (kr HO_5) hb)
          replace HO_6 := asd (Kd.R_below (kr HO_6) hb)
          replace BK218 := bB BK218 hb
          replace BK251 := bB BK251 hb
          replace HB := bS2 HB GE218 GE251 hb
          (try clear hb)
          (try clear hb2)
          (try clear hk)
          (try clear hi)
          refine hK.out _ _ ⟨bcl BK218 0, bcl BK218 1, bcl BK218 2, (xb HB hw237_0), (xb HB hw237_1), (xb HB hw237_2), (xb HB hw237_3), (xb HB hw237_4), (xb HB hw237_5), HS9_, HS10_, HS11_, HS12_, HS13_, HS14_⟩ (fun hHeld => ?_)
          clear hK K
          refine norm_ (a' := ?_) ?_ ?_
          rotate_left
          ·show Act.put _ (some 36) _ = _
           simp only [Act.put, sA, sB, sC, i64_w, i32_w]
           rfl
          exact norm_ (by simp only [putAll, Act.put, sA, sB, sC]) (hCont (gb251) _ ⟨hHeld, (kr HO_5), (kr HO_6), (bkp BK218), (bkp BK251), GW251.out, GE251.out, NB218_251.out, NB251_218.out, (bbw2 HB GE218 GE251)⟩)
        ·skip
         refine box_step ?hg (N := 9) ?hd (cs := #[.int .i64 0, .int .i64 0, .int .i64 0, .int .i64 0, .int .i64 0, .int .i64 0]) (t := 48) ?hr ?_; (case hd => rfl); (case hg => rfl); (case hr => first | (go_simp; done) | (go_simp; rfl))
         intro gb251 hg w24 hbox hb
         have HS9_ := hbc hb (hHeld.2.2.2.2.2.2.2.2.2.1)
         have HS10_ := hbc hb (hHeld.2.2.2.2.2.2.2.2.2.2.1)
         have HS11_ := hbc hb (hHeld.2.2.2.2.2.2.2.2.2.2.2.1)
         have HS12_ := hbc hb (hHeld.2.2.2.2.2.2.2.2.2.2.2.2.1)
         have HS13_ := hbc hb (hHeld.2.2.2.2.2.2.2.2.2.2.2.2.2.1)
         have HS14_ := hbc hb (hHeld.2.2.2.2.2.2.2.2.2.2.2.2.2.2)
         replace HO_5 := asd (Kd.R_below (Kd.R_elderB (kr HO_5) gb251 (Nat.le_of_eq hg.symm)) hb)
         replace HO_6 := asd (Kd.R_below (Kd.R_elderB (kr HO_6) gb251 (Nat.le_of_eq hg.symm)) hb)
         have BK251 := asd (hbox)
         have GW251 := ngw1 hg HB GE218
         have GE251 := ngw1 hg HB GE218
         replace HB := bS1 HB GE218 hb
         have NB218_251 := nlt hg BK218
         have NB251_218 := nsy (nlt hg BK218)
         replace BK218 := bB BK218 hb
         clear hb hbox hg
         refine hK.out _ _ ⟨bcl BK218 0, bcl BK218 1, bcl BK218 2, (xb HB hw237_0), (xb HB hw237_1), (xb HB hw237_2), (xb HB hw237_3), (xb HB hw237_4), (xb HB hw237_5), HS9_, HS10_, HS11_, HS12_, HS13_, HS14_⟩ (fun hHeld => ?_)
         clear hK K
         refine norm_ (a' := ?_) ?_ ?_
         rotate_left
         ·show Act.put _ (some 9) _ = _
          simp only [Act.put, sA, sB, sC, i64_w, i32_w]
          rfl
         refine ro 9 (some 35) (bs 13 3071) HT_ (fun K hK => ?_)
         refine gs Tryz.func65 #[.agg #[.int .i64 ((rd_T48 l1 x8_2).f0.f0), .int .i64 ((rd_T48 l1 x8_2).f0.f1), .int .i64 ((rd_T48 l1 x8_2).f0.f2), .int .i64 ((rd_T48 l1 x8_2).f0.f3), .int .i64 ((rd_T48 l1 x8_2).f1.f0), .int .i64 ((rd_T48 l1 x8_2).f1.f1)], .agg #[.int .i64 ((rd_T48 x6_2 x7_1).f0.f0), .int .i64 ((rd_T48 x6_2 x7_1).f0.f1), .int .i64 ((rd_T48 x6_2 x7_1).f0.f2), .int .i64 ((rd_T48 x6_2 x7_1).f0.f3), .int .i64 ((rd_T48 x6_2 x7_1).f1.f0), .int .i64 ((rd_T48 x6_2 x7_1).f1.f1)]] ?_
         with_reducible refine (spec_l05Compose.calls _ _ _ _ _ _ _ _ _ _ _ _ _ _ _ _ _ _ _ A18.out).mono ?_
         rintro e w25 ⟨rfl, hb⟩
         have HS9_ := hbc hb (hHeld.2.2.2.2.2.2.2.2.2.1)
         have HS10_ := hbc hb (hHeld.2.2.2.2.2.2.2.2.2.2.1)
         have HS11_ := hbc hb (hHeld.2.2.2.2.2.2.2.2.2.2.2.1)
         have HS12_ := hbc hb (hHeld.2.2.2.2.2.2.2.2.2.2.2.2.1)
         have HS13_ := hbc hb (hHeld.2.2.2.2.2.2.2.2.2.2.2.2.2.1)
         have HS14_ := hbc hb (hHeld.2.2.2.2.2.2.2.2.2.2.2.2.2.2)
         refine ⟨_, rfl, ?_⟩
         replace HO_5 := asd (Kd.R_below (kr HO_5) hb)
         replace HO_6 := asd (Kd.R_below (kr HO_6) hb)
         replace BK218 := bB BK218 hb
         replace BK251 := bB BK251 hb
         replace HB := bS2 HB GE218 GE251 hb
         (try clear hb)
         (try clear hb2)
         (try clear hk)
         (try clear hi)
         refine hK.out _ _ ⟨bcl BK218 0, bcl BK218 1, bcl BK218 2, (xb HB hw237_0), (xb HB hw237_1), (xb HB hw237_2), (xb HB hw237_3), (xb HB hw237_4), (xb HB hw237_5), HS9_, HS10_, HS11_, HS12_, HS13_, HS14_⟩ (fun hHeld => ?_)
         clear hK K
         refine norm_ (a' := ?_) ?_ ?_
         rotate_left
         ·show Act.put _ (some 35) _ = _
          simp only [Act.put, sA, sB, sC, i64_w, i32_w]
          rfl
         refine ro 10 (some 36) (bT 13 12) HT_ (fun K hK => ?_)
         refine gs Tryz.func30 #[.agg #[.int .i64 a0_0, .int .i64 a0_1, .int .i64 a0_2], .agg #[.int .i64 t239, .int .i64 t240, .int .i64 t241, .int .i64 t242, .int .i64 t243, .int .i64 t244]] ?_
         with_reducible refine (spec_l06Reduce.calls _ _ _ _ _ _ _ _ _ _ _ _ _ _ _ _ A19.out).mono ?_
         rintro e w26 ⟨rfl, hb⟩
         have HS9_ := hbc hb (hHeld.2.2.2.2.2.2.2.2.2.1)
         have HS10_ := hbc hb (hHeld.2.2.2.2.2.2.2.2.2.2.1)
         have HS11_ := hbc hb (hHeld.2.2.2.2.2.2.2.2.2.2.2.1)
         have HS12_ := hbc hb (hHeld.2.2.2.2.2.2.2.2.2.2.2.2.1)
         have HS13_ := hbc hb (hHeld.2.2.2.2.2.2.2.2.2.2.2.2.2.1)
         have HS14_ := hbc hb (hHeld.2.2.2.2.2.2.2.2.2.2.2.2.2.2)
         refine ⟨_, rfl, ?_⟩
         replace HO_5 := asd (Kd.R_below (kr HO_5) hb)
         replace HO_6 := asd (Kd.R_below (kr HO_6) hb)
         replace BK218 := bB BK218 hb
         replace BK251 := bB BK251 hb
         replace HB := bS2 HB GE218 GE251 hb
         (try clear hb)
         (try clear hb2)
         (try clear hk)
         (try clear hi)
         refine hK.out _ _ ⟨bcl BK218 0, bcl BK218 1, bcl BK218 2, (xb HB hw237_0), (xb HB hw237_1), (xb HB hw237_2), (xb HB hw237_3), (xb HB hw237_4), (xb HB hw237_5), HS9_, HS10_, HS11_, HS12_, HS13_, HS14_⟩ (fun hHeld => ?_)
         clear hK K
         refine norm_ (a' := ?_) ?_ ?_
         rotate_left
         ·show Act.put _ (some 36) _ = _
          simp only [Act.put, sA, sB, sC, i64_w, i32_w]
          rfl
         exact norm_ (by simp only [putAll, Act.put, sA, sB, sC]) (hCont (gb251) _ ⟨hHeld, (kr HO_5), (kr HO_6), (bkp BK218), (bkp BK251), GW251.out, GE251.out, NB218_251.out, NB251_218.out, (bbw2 HB GE218 GE251)⟩)
       rintro gb251 w27 ⟨hS_, h0_, h1_, h2_, h3_, h4_, h5_, h6_, h7_, h8_⟩
       have n0_ : Aside0 (Kd.R k48 48 w27 w.heap.size (fun k_ => some k_ ≠ (.slice (some ad238) x6_2.length co23 : Value).ownBlock ∧ k_ ≠ gb251) u5 x5_2) := ⟨h0_⟩
       have n1_ : Aside0 (Kd.R k48 48 w27 w.heap.size (fun k_ => some k_ ≠ (u5 : Value).ownBlock ∧ k_ ≠ gb251) (.slice (some ad238) x6_2.length co23) x6_2) := ⟨h1_⟩
       have n2_ : Aside0 (w27.heap[gb218]? = some (.cells #[.int .i64 a0_0, .int .i64 a0_1, .int .i64 a0_2] 29 (0, 0))) := ⟨h2_⟩
       have n3_ : Aside0 (w27.heap[gb251]? = some (.cells #[.int .i64 0, .int .i64 0, .int .i64 0, .int .i64 0, .int .i64 0, .int .i64 0] 48 (0, 0))) := ⟨h3_⟩
       have n4_ : Aside0 (w.heap.size ≤ gb251) := ⟨h4_⟩
       have n5_ : Aside0 (w.heap.size ≤ gb251) := ⟨h5_⟩
       have n6_ : Aside0 (gb218 ≠ gb251) := ⟨h6_⟩
       have n7_ : Aside0 (gb251 ≠ gb218) := ⟨h7_⟩
       have n8_ : Aside0 (Below w.heap.size w w27) := ⟨h8_⟩
       clear HO_5
       clear HO_6
       clear BK218
       clear HB
       clear h0_ h1_ h2_ h3_ h4_ h5_ h6_ h7_ h8_
       have HO_5 := n0_
       have HO_6 := n1_
       have BK218 := n2_
       have BK251 := n3_
       have GW251 := n4_
       have GE251 := n5_
       have NB218_251 := n6_
       have NB251_218 := n7_
       have HB := n8_
       clear n0_ n1_ n2_ n3_ n4_ n5_ n6_ n7_ n8_
       have hHeld : w27.cell? ⟨gb218, 0, none⟩ = some (.int .i64 a0_0) ∧ w27.cell? ⟨gb218, 1, none⟩ = some (.int .i64 a0_1) ∧ w27.cell? ⟨gb218, 2, none⟩ = some (.int .i64 a0_2) ∧ w27.cell? (ad237.add ((x8_2).toNat * 6)) = some (.int .i64 ((rd_T48 l1 x8_2).f0.f0)) ∧ w27.cell? ⟨(ad237.add ((x8_2).toNat * 6)).block, (ad237.add ((x8_2).toNat * 6)).off + 1, none⟩ = some (.int .i64 ((rd_T48 l1 x8_2).f0.f1)) ∧ w27.cell? ⟨(ad237.add ((x8_2).toNat * 6)).block, (ad237.add ((x8_2).toNat * 6)).off + 2, none⟩ = some (.int .i64 ((rd_T48 l1 x8_2).f0.f2)) ∧ w27.cell? ⟨(ad237.add ((x8_2).toNat * 6)).block, (ad237.add ((x8_2).toNat * 6)).off + 3, none⟩ = some (.int .i64 ((rd_T48 l1 x8_2).f0.f3)) ∧ w27.cell? ⟨(ad237.add ((x8_2).toNat * 6)).block, (ad237.add ((x8_2).toNat * 6)).off + 4, none⟩ = some (.int .i64 ((rd_T48 l1 x8_2).f1.f0)) ∧ w27.cell? ⟨(ad237.add ((x8_2).toNat * 6)).block, (ad237.add ((x8_2).toNat * 6)).off + 5, none⟩ = some (.int .i64 ((rd_T48 l1 x8_2).f1.f1)) ∧ w27.cell? (ad238.add ((x7_1).toNat * 6)) = some (.int .i64 ((rd_T48 x6_2 x7_1).f0.f0)) ∧ w27.cell? ⟨(ad238.add ((x7_1).toNat * 6)).block, (ad238.add ((x7_1).toNat * 6)).off + 1, none⟩ = some (.int .i64 ((rd_T48 x6_2 x7_1).f0.f1)) ∧ w27.cell? ⟨(ad238.add ((x7_1).toNat * 6)).block, (ad238.add ((x7_1).toNat * 6)).off + 2, none⟩ = some (.int .i64 ((rd_T48 x6_2 x7_1).f0.f2)) ∧ w27.cell? ⟨(ad238.add ((x7_1).toNat * 6)).block, (ad238.add ((x7_1).toNat * 6)).off + 3, none⟩ = some (.int .i64 ((rd_T48 x6_2 x7_1).f0.f3)) ∧ w27.cell? ⟨(ad238.add ((x7_1).toNat * 6)).block, (ad238.add ((x7_1).toNat * 6)).off + 4, none⟩ = some (.int .i64 ((rd_T48 x6_2 x7_1).f1.f0)) ∧ w27.cell? ⟨(ad238.add ((x7_1).toNat * 6)).block, (ad238.add ((x7_1).toNat * 6)).off + 5, none⟩ = some (.int .i64 ((rd_T48 x6_2 x7_1).f1.f1)) := hS_
       refine norm_ (a' := ?_) ?_ ?_
       rotate_left
       ·simp only [putAll, Act.put, sA, sB, sC]
        rfl
       refine ro 12 (none) (bT 13 13) HT_ (fun K hK => ?_)
       have hs28 : w27.cell? ⟨gb251, 0, none⟩ = some (.int .i64 0) := bcl BK251 0
       have hfs28 := blk_frozen BK251.out 0
       have hns28_0 := NB218_251.out
       have hms28_0 := NB251_218.out
       have hs29 : w27.cell? ⟨gb251, 1, none⟩ = some (.int .i64 0) := bcl BK251 1
       have hfs29 := blk_frozen BK251.out 1
       have hns29_0 := NB218_251.out
       have hms29_0 := NB251_218.out
       have hs30 : w27.cell? ⟨gb251, 2, none⟩ = some (.int .i64 0) := bcl BK251 2
       have hfs30 := blk_frozen BK251.out 2
       have hns30_0 := NB218_251.out
       have hms30_0 := NB251_218.out
       have hs31 : w27.cell? ⟨gb251, 3, none⟩ = some (.int .i64 0) := bcl BK251 3
       have hfs31 := blk_frozen BK251.out 3
       have hns31_0 := NB218_251.out
       have hms31_0 := NB251_218.out
       have hs32 : w27.cell? ⟨gb251, 4, none⟩ = some (.int .i64 0) := bcl BK251 4
       have hfs32 := blk_frozen BK251.out 4
       have hns32_0 := NB218_251.out
       have hms32_0 := NB251_218.out
       have hs33 : w27.cell? ⟨gb251, 5, none⟩ = some (.int .i64 0) := bcl BK251 5
       have hfs33 := blk_frozen BK251.out 5
       have hns33_0 := NB218_251.out
       have hms33_0 := NB251_218.out
       refine skip_ (w1 := ?_) (by rfl) rfl ?_ ?_
       rotate_left
       ·go_simp
        rfl
       refine hK.out _ _ ⟨(cf6 NB218_251 (hHeld.1)), (cf6 NB218_251 (hHeld.2.1)), (cf6 NB218_251 (hHeld.2.2.1)), (fx6 (bn hw237_0 GW251) (hHeld.2.2.2.1)), (fx6 (bn hw237_1 GW251) (hHeld.2.2.2.2.1)), (fx6 (bn hw237_2 GW251) (hHeld.2.2.2.2.2.1)), (fx6 (bn hw237_3 GW251) (hHeld.2.2.2.2.2.2.1)), (fx6 (bn hw237_4 GW251) (hHeld.2.2.2.2.2.2.2.1)), (fx6 (bn hw237_5 GW251) (hHeld.2.2.2.2.2.2.2.2.1)), (fx6 (Kd.own_blk (Kd.R_away HO_6.out (fun _ hk => hk.2))) (hHeld.2.2.2.2.2.2.2.2.2.1)), (fx6 (Kd.own_blk (Kd.R_away HO_6.out (fun _ hk => hk.2))) (hHeld.2.2.2.2.2.2.2.2.2.2.1)), (fx6 (Kd.own_blk (Kd.R_away HO_6.out (fun _ hk => hk.2))) (hHeld.2.2.2.2.2.2.2.2.2.2.2.1)), (fx6 (Kd.own_blk (Kd.R_away HO_6.out (fun _ hk => hk.2))) (hHeld.2.2.2.2.2.2.2.2.2.2.2.2.1)), (fx6 (Kd.own_blk (Kd.R_away HO_6.out (fun _ hk => hk.2))) (hHeld.2.2.2.2.2.2.2.2.2.2.2.2.2.1)), (fx6 (Kd.own_blk (Kd.R_away HO_6.out (fun _ hk => hk.2))) (hHeld.2.2.2.2.2.2.2.2.2.2.2.2.2.2))⟩ (fun hHeld => ?_)
       clear hK K
       refine done_ (done_of HT_.out (by kernel_rfl)) ?_
       have hnb34 := NB251_218.out
       have hnc34 := NB218_251.out
       obtain ⟨hcz35_0, hcz35_1, hcz35_2, hcz35_3, hcz35_4, hcz35_5, hfz35_0, hfz35_1, hfz35_2, hfz35_3, hfz35_4, hfz35_5⟩ := bz6 BK251
       obtain ⟨Ao36, co36, eo36⟩ := Kd.R_slice HO_5.out
       subst eo36
      focus try go_wp2_with (first | ((with_reducible refine gate_callee (f := 49) rfl ?_); refine gl 39 Tryz.func49 #[.slice Ao36 x5_2.length co36, .agg #[.int .i64 t245, .int .i64 t246, .int .i64 t247, .int .i64 t248, .int .i64 t249, .int .i64 t250]] ?_; (with_reducible refine (spec_l06Has.calls _ _ _ _ _ _ _ _ _ _ _ _ ?side1 ?side2 A20.out).mono ?_); (case side1 => refine (Kd.R_reads' (e := 48) (base := w.heap.size) (ok := fun k_ => (some k_ ≠ (.slice (some ad238) x6_2.length co23 : Value).ownBlock ∧ k_ ≠ gb251)) (n := x5_2.length) (c := co36) ?_).2.2; exact (by (with_reducible repeat (first | apply Kd.R_alloc | apply Kd.R_drewN | apply Kd.R_drew)); exact (Kd.R_mono (rw6 (Kd.R_mono HO_5.out (fun k_ hk => (⟨hk, hk.2⟩ : _ ∧ k_ ≠ gb251)))) (fun _ h_ => h_.1)))); (case side2 => exact (Kd.R_reads' HO_5.out).2.1); rintro e w37 ⟨rfl, hb⟩; refine ⟨_, rfl, ?_⟩; replace HO_5 := asd (Kd.R_below (by (with_reducible repeat (first | apply Kd.R_alloc | apply Kd.R_drewN | apply Kd.R_drew)); exact (Kd.R_mono (rw6 (Kd.R_mono HO_5.out (fun k_ hk => (⟨hk, hk.2⟩ : _ ∧ k_ ≠ gb251)))) (fun _ h_ => h_.1))) hb); replace HO_6 := asd (Kd.R_below (by (with_reducible repeat (first | apply Kd.R_alloc | apply Kd.R_drewN | apply Kd.R_drew)); exact (Kd.R_mono (rw6 (Kd.R_mono HO_6.out (fun k_ hk => (⟨hk, hk.2⟩ : _ ∧ k_ ≠ gb251)))) (fun _ h_ => h_.1))) hb); replace BK218 := asd (blk_below (g := gb218) (o := .cells #[.int .i64 a0_0, .int .i64 a0_1, .int .i64 a0_2] 29 (0, 0)) (bq1 BK218 NB218_251) hb); replace BK251 := asd (blk_below (g := gb251) (o := .cells #[.int .i64 t245, .int .i64 t246, .int .i64 t247, .int .i64 t248, .int .i64 t249, .int .i64 t250] 48 (0, 0)) (bq0 BK251) hb); replace HB := bS2 HB GE218 GE251 hb; (try clear hb)))
      rotate_left
      focus try go_wp2_with (first | ((with_reducible refine gate_callee (f := 49) rfl ?_); refine gl 39 Tryz.func49 #[.slice Ao36 x5_2.length co36, .agg #[.int .i64 t245, .int .i64 t246, .int .i64 t247, .int .i64 t248, .int .i64 t249, .int .i64 t250]] ?_; (with_reducible refine (spec_l06Has.calls _ _ _ _ _ _ _ _ _ _ _ _ ?side1 ?side2 A20.out).mono ?_); (case side1 => refine (Kd.R_reads' (e := 48) (base := w.heap.size) (ok := fun k_ => (some k_ ≠ (.slice (some ad238) x6_2.length co23 : Value).ownBlock ∧ k_ ≠ gb251)) (n := x5_2.length) (c := co36) ?_).2.2; exact (by (with_reducible repeat (first | apply Kd.R_alloc | apply Kd.R_drewN | apply Kd.R_drew)); exact (Kd.R_mono (rw6 (Kd.R_mono HO_5.out (fun k_ hk => (⟨hk, hk.2⟩ : _ ∧ k_ ≠ gb251)))) (fun _ h_ => h_.1)))); (case side2 => exact (Kd.R_reads' HO_5.out).2.1); rintro e w55 ⟨rfl, hb⟩; refine ⟨_, rfl, ?_⟩; replace HO_5 := asd (Kd.R_below (by (with_reducible repeat (first | apply Kd.R_alloc | apply Kd.R_drewN | apply Kd.R_drew)); exact (Kd.R_mono (rw6 (Kd.R_mono HO_5.out (fun k_ hk => (⟨hk, hk.2⟩ : _ ∧ k_ ≠ gb251)))) (fun _ h_ => h_.1))) hb); replace HO_6 := asd (Kd.R_below (by (with_reducible repeat (first | apply Kd.R_alloc | apply Kd.R_drewN | apply Kd.R_drew)); exact (Kd.R_mono (rw6 (Kd.R_mono HO_6.out (fun k_ hk => (⟨hk, hk.2⟩ : _ ∧ k_ ≠ gb251)))) (fun _ h_ => h_.1))) hb); replace BK218 := asd (blk_below (g := gb218) (o := .cells #[.int .i64 a0_0, .int .i64 a0_1, .int .i64 a0_2] 29 (0, 0)) (bq1 BK218 NB218_251) hb); replace BK251 := asd (blk_below (g := gb251) (o := .cells #[.int .i64 t245, .int .i64 t246, .int .i64 t247, .int .i64 t248, .int .i64 t249, .int .i64 t250] 48 (0, 0)) (bq0 BK251) hb); replace HB := bS2 HB GE218 GE251 hb; (try clear hb); obtain ⟨hcz56_0, hcz56_1, hcz56_2, hcz56_3, hcz56_4, hcz56_5, hfz56_0, hfz56_1, hfz56_2, hfz56_3, hfz56_4, hfz56_5⟩ := bz6 BK251) | ((with_reducible refine gate_callee (f := 44) rfl ?_); refine spec_l06Insert.event (w0 := w) w.heap.size (some 43) rfl rfl (.tmp 41) (.tmp 42) rfl (.slice Ao36 x5_2.length co36) x5_2 (⟨(⟨t245, t246, t247, t248⟩ : S46), (⟨t249, t250⟩ : S38)⟩ : S48) (fun k_ => some k_ ≠ (.slice (some ad238) x6_2.length co23 : Value).ownBlock ∧ k_ ≠ gb251) rfl rfl ?aF ?aO ?aB ?aS ?aL ?_; (case aB => exact (bbw2 HB GE218 GE251)); (case aF => exact (fun k_ hk => ⟨Kd.fresh' (Kd.R_lt (kr HO_6)) k_ hk, Kd.freshB (g := gb251) (o := .cells #[.int .i64 t245, .int .i64 t246, .int .i64 t247, .int .i64 t248, .int .i64 t249, .int .i64 t250] 48 (0, 0)) (bkp BK251) k_ hk⟩)); (case aO => exact (kr HO_5)); (case aS => exact (bsz2 HB GE218 GE251)); (case aL => exact LMc38.out); intro v254 w57 ho hb hg hat; rw [← Ny253.out] at ho; have n0_ := asd (Kd.R_after (ok := (fun k_ => k_ ≠ gb251)) (by (with_reducible repeat (first | apply Kd.R_alloc | apply Kd.R_drewN | apply Kd.R_drew)); exact Kd.R_mono HO_6.out (fun _ hk => ⟨hk.2, hk.1⟩)) hg hat); have n1_ := asd (blk_grown (g := gb218) (o := .cells #[.int .i64 a0_0, .int .i64 a0_1, .int .i64 a0_2] 29 (0, 0)) (bkp BK218) hg (Kd.R_ne HO_5.out BK218.out (by decide))); have n2_ := asd (blk_grown (g := gb251) (o := .cells #[.int .i64 t245, .int .i64 t246, .int .i64 t247, .int .i64 t248, .int .i64 t249, .int .i64 t250] 48 (0, 0)) (bkp BK251) hg (Kd.R_away HO_5.out (fun _ hk => hk.2))); have n3_ := asd (hb); have n4_ := asd (ho); clear HO_6; clear BK218; clear BK251; clear HB; clear HO_5; have HO_6 := n0_; have BK218 := n1_; have BK251 := n2_; have HB := n3_; have HO255 := n4_; clear n0_ n1_ n2_ n3_ n4_; clear ho hb hg hat; obtain ⟨hcz58_0, hcz58_1, hcz58_2, hcz58_3, hcz58_4, hcz58_5, hfz58_0, hfz58_1, hfz58_2, hfz58_3, hfz58_4, hfz58_5⟩ := bz6 BK251) | ((with_reducible refine gate_builtin (b := .append) (xs := #[.tmp 44, .tmp 46]) rfl ?_); at_builtin; refine Kd.R_append k48 (w0 := w) w.heap.size rfl (.tmp 44) (.tmp 46) 26 48 (.agg #[(.int .i64 0), (.int .i64 0), (.int .i64 0), (.int .i64 0), (.int .i64 0), (.int .i64 0)]) 48 rfl Tryz.underlying26 info48 rfl (by decide) (by omega) (.slice (some ad238) x6_2.length co23) x6_2 (⟨(⟨t245, t246, t247, t248⟩ : S46), (⟨t249, t250⟩ : S38)⟩ : S48) [.int .i64 t245, .int .i64 t246, .int .i64 t247, .int .i64 t248, .int .i64 t249, .int .i64 t250] (fun k_ => some k_ ≠ (v254 : Value).ownBlock ∧ k_ ≠ gb251) (fun _ => False) rfl rfl ?aP (fun _ hk => hk.elim) ?aF ?aO ?aB ?aS ?aL ?_; (case aP => exact k48_mkM _ _ _ (⟨(⟨t245, t246, t247, t248⟩ : S46), (⟨t249, t250⟩ : S38)⟩ : S48)); (case aB => exact (bbw2 HB GE218 GE251)); (case aF => exact (fun k_ hk => ⟨Kd.fresh' (Kd.R_lt (kr HO255)) k_ hk, Kd.freshB (g := gb251) (o := .cells #[.int .i64 t245, .int .i64 t246, .int .i64 t247, .int .i64 t248, .int .i64 t249, .int .i64 t250] 48 (0, 0)) (bkp BK251) k_ hk⟩)); (case aO => exact (by (with_reducible repeat (first | apply Kd.R_alloc | apply Kd.R_drewN | apply Kd.R_drew)); exact Kd.R_mono HO_6.out (fun _ hk => ⟨hk.2, hk.1⟩))); (case aS => exact (bsz2 HB GE218 GE251)); (case aL => have := LMc39.out; omega); intro v257 w59 ho hb hg hat; rw [← Ny256.out] at ho; have n0_ := asd (blk_grown (g := gb218) (o := .cells #[.int .i64 a0_0, .int .i64 a0_1, .int .i64 a0_2] 29 (0, 0)) (bkp BK218) hg (Kd.R_ne HO_6.out BK218.out (by decide))); have n1_ := asd (blk_grown (g := gb251) (o := .cells #[.int .i64 t245, .int .i64 t246, .int .i64 t247, .int .i64 t248, .int .i64 t249, .int .i64 t250] 48 (0, 0)) (bkp BK251) hg (Kd.R_away HO_6.out (fun _ hk => hk.1))); have n2_ := asd (Kd.R_after (ok := (fun k_ => k_ ≠ gb251)) (by (with_reducible repeat (first | apply Kd.R_alloc | apply Kd.R_drewN | apply Kd.R_drew)); exact Kd.R_mono HO255.out (fun _ hk => ⟨hk.2, hk.1⟩)) hg hat); have n3_ := asd (hb); have n4_ := asd (ho); clear BK218; clear BK251; clear HO255; clear HB; clear HO_6; have BK218 := n0_; have BK251 := n1_; have HO255 := n2_; have HB := n3_; have HO258 := n4_; clear n0_ n1_ n2_ n3_ n4_; clear ho hb hg hat))
      rotate_left
      all_goals
       go_roundg k2
       case measure => have := HK1.out; have := HK2.out; omega
      ·case rel => exact ⟨(x5_2), (x6_2), (wrap64 (x8_2 + 1)), (by first | rfl | (simp; done) | (simp [*]; done)), H', ⟨by have := HK1.out; have := HK2.out; omega⟩, ⟨by (with_reducible repeat (first | apply Kd.R_alloc | apply Kd.R_drewN | apply Kd.R_drew)); exact Kd.R_mono HO_5.out (fun _ hk => hk.1)⟩, ⟨by (with_reducible repeat (first | apply Kd.R_alloc | apply Kd.R_drewN | apply Kd.R_drew)); exact Kd.R_mono HO_6.out (fun _ hk => hk.1)⟩, ⟨bkp BK218⟩, ⟨bbw2 HB GE218 GE251⟩⟩
      ·case rel => exact ⟨(y253), (y256), (wrap64 (x8_2 + 1)), (by first | rfl | (simp; done) | (simp [*]; done)), H', ⟨by have := HK1.out; have := HK2.out; omega⟩, ⟨by (with_reducible repeat (first | apply Kd.R_alloc | apply Kd.R_drewN | apply Kd.R_drew)); exact Kd.R_mono HO255.out (fun _ hk => hk.2)⟩, ⟨by (with_reducible repeat (first | apply Kd.R_alloc | apply Kd.R_drewN | apply Kd.R_drew)); exact Kd.R_mono HO258.out (fun _ hk => hk.1)⟩, ⟨bkp BK218⟩, ⟨bbw2 HB GE218 GE251⟩⟩
   ·rw [if_neg c12] at H
    have c12b0 := decide_eq_false c12
    clear c12
    obtain rfl := Option.some.inj H
    obtain ⟨Ao60, co60, eo60⟩ := Kd.R_slice HO_6.out
    subst eo60
    go_wp2
    go_ret
    exact ⟨_, by first | rfl | (simp [errW_none, errW_some] <;> rfl) | (simp [*, errW_none, errW_some] <;> rfl), by (with_reducible repeat (first | apply Kd.R_alloc | apply Kd.R_drewN | apply Kd.R_drew)); exact Kd.R_mono HO_5.out (fun _ hk => trivial), bbw1 HB GE218⟩
end Go.Proofs.YtdodghjnlekgeaaGreat.PA
