import Derived.Test.YtdodghjnlekgeaaGreatPAx0
import Derived.Test.YtdodghjnlekgeaaGreatPAx5
import Derived.Test.YtdodghjnlekgeaaGreatPAx6
import Derived.Test.YtdodghjnlekgeaaGreatPAx8
import Derived.Test.YtdodghjnlekgeaaGreatPAx9
import Derived.Test.YtdodghjnlekgeaaGreatPAx10
import Derived.Test.YtdodghjnlekgeaaGreatPAx15
import Derived.Test.YtdodghjnlekgeaaGreatPAx16
import Derived.Test.YtdodghjnlekgeaaGreatPAx17
namespace Go.Proofs.YtdodghjnlekgeaaGreat.PA
open Go.RowKit Go.Proofs.YtdodghjnlekgeaaGreatW.PrintWords Go.Proofs.YtdodghjnlekgeaaGreatW.PrintLast Go.Proofs.YtdodghjnlekgeaaGreatW.PrintMore
attribute [local go_sem] max2_int min2_int max_two min_two max_three min_three max_four min_four   -- for this text's walks alone
set_option linter.unusedVariables false
set_option maxHeartbeats 8000000
set_option maxRecDepth 100000
set_option linter.unusedSimpArgs false
mutual
def spec_CloseGroup.l0 : Nat → Int → List (S48) → Bool → List (S48) → Int → Int → Int → Int → Option ((List (S48)) × Int)
 | 0, _, _, _, _, _, _, _, _ => none
 | k + 1, x0, x2, x8, x9, x10, x797000, x797001, x797002 => if x8 = true then (spec_CloseGroup.j1 k x0 x2 x8 x9 x10 (decide (x10 < (x2.length : Int))) x797000 x797001 x797002) else (spec_CloseGroup.j1 k x0 x2 x8 x9 x10 false x797000 x797001 x797002)
def spec_CloseGroup.j1 : Nat → Int → List (S48) → Bool → List (S48) → Int → Bool → Int → Int → Int → Option ((List (S48)) × Int)
 | 0, _, _, _, _, _, _, _, _, _ => none
 | k + 1, x0, x2, x8, x9, x10, x22, x797000, x797001, x797002 => if x22 = true then (if x8 = true then (if 0 ≤ x10 then (if x10 < (x2.length : Int) then ((spec_IsSuitable.f k x0 x797000 x797001 x797002 ((rd_T48 x2 x10).f0.f0) ((rd_T48 x2 x10).f0.f1) ((rd_T48 x2 x10).f0.f2) ((rd_T48 x2 x10).f0.f3) ((rd_T48 x2 x10).f1.f0) ((rd_T48 x2 x10).f1.f1)).bind fun t801 => (if t801 = true then ((spec_l06Reduce.f x797000 x797001 x797002 ((rd_T48 x2 x10).f0.f0) ((rd_T48 x2 x10).f0.f1) ((rd_T48 x2 x10).f0.f2) ((rd_T48 x2 x10).f0.f3) ((rd_T48 x2 x10).f1.f0) ((rd_T48 x2 x10).f1.f1)).bind fun bt803 => (if x9.length < 2932031007402 then (spec_CloseGroup.l0 k x0 x2 t801 (x9 ++ [(⟨(⟨bt803.1, bt803.2.1, bt803.2.2.1, bt803.2.2.2.1⟩ : S46), (⟨bt803.2.2.2.2.1, bt803.2.2.2.2.2⟩ : S38)⟩ : S48)]) (wrap64 (x10 + 1)) x797000 x797001 x797002) else (none))) else (spec_CloseGroup.l0 k x0 x2 t801 x9 (wrap64 (x10 + 1)) x797000 x797001 x797002))) else (none)) else (none)) else (spec_CloseGroup.l0 k x0 x2 false x9 (wrap64 (x10 + 1)) x797000 x797001 x797002)) else ((spec_l06Code.f x0 x797000 x797001 x797002 x8).bind fun t812 => (if t812 = 0 then ((spec_l06Close.f k x797000 x797001 x797002 x9).bind fun t813 => (some (t813, 0))) else (some (([] : List (S48)), t812))))
end
def spec_CloseGroup.f (k : Nat) (a0 : Int) (a1_0 : Int) (a1_1 : Int) (a1_2 : Int) (l2 : List (S48)) : Option ((List (S48)) × Int) := spec_CloseGroup.l0 k a0 l2 (decide ((l2.length : Int) ≤ 8)) (([] : List (S48))) 0 a1_0 a1_1 a1_2
def spec_CloseGroup.T6 : Bool × List (List Nat × List Nat) := (true, [([], []), ([0], [0]), ([1], [1]), ([1], [1]), ([1], [1]), ([1], [1]), ([4, 5, 1], [1, 4, 5]), ([6, 1], [1, 6]), ([2, 3, 7, 1, 1], [1, 2, 3, 7]), ([1, 8], [1, 8]), ([9, 8, 0, 1, 2, 3, 4, 5, 6, 7, 8, 9], [0, 9])])
def spec_CloseGroup.B6 : List Nat := [0, 1, 3, 3, 3, 3, 51, 115, 255, 511, 1023]
theorem spec_CloseGroup.tab6 : rtab .any (opsOf Tryz.f9 6) = spec_CloseGroup.T6 := by kernel_rfl
theorem spec_CloseGroup.bits6 : waitsOk spec_CloseGroup.T6.2 spec_CloseGroup.B6 = true := by kernel_rfl
def spec_CloseGroup.T8 : Bool × List (List Nat × List Nat) := (true, [([], []), ([], []), ([], []), ([], []), ([2, 3], [2, 3]), ([4], [4]), ([1, 5], [1, 5]), ([6], [6]), ([0, 7, 6], [0, 7]), ([8, 8, 0, 1, 2, 3, 4, 5, 6, 7, 8], [0, 8])])
def spec_CloseGroup.B8 : List Nat := [0, 0, 0, 0, 12, 28, 62, 126, 255, 511]
theorem spec_CloseGroup.tab8 : rtab .any (opsOf Tryz.f9 8) = spec_CloseGroup.T8 := by kernel_rfl
theorem spec_CloseGroup.bits8 : waitsOk spec_CloseGroup.T8.2 spec_CloseGroup.B8 = true := by kernel_rfl
theorem spec_CloseGroup.calls (k : Nat) (a0 : Int) (a1_0 : Int) (a1_1 : Int) (a1_2 : Int) (A2 : Option Addr) (c2 : Nat) (l2 : List (S48)) (r1 : List (S48)) (r2 : Int) (w : World) (hr2 : Kd.C k48 w A2 l2.length l2) (hc2 : l2.length ≤ c2) (h : spec_CloseGroup.f k a0 a1_0 a1_1 a1_2 l2 = some (r1, r2)) :
  Calls Tryz.prog 9 #[.int .i64 a0, .agg #[.int .i64 a1_0, .int .i64 a1_1, .int .i64 a1_2], .slice A2 l2.length c2] w fun e w' => ∃ v0_ : Value, e = .returned (.tuple #[v0_, .int .i64 r2]) ∧ Kd.R k48 48 w' w.heap.size (fun _ => True) v0_ r1 ∧ Below w.heap.size w w' := by
 have hu29 := Tryz.underlying29
 have hu48 := Tryz.underlying48
 have HR2 := Aside0.mk hr2
 have HC2 := Aside0.mk hc2
 clear hr2 hc2
 have HB := asd (Below.refl w.heap.size w)
 have H : (spec_CloseGroup.l0 k a0 l2 (decide ((l2.length : Int) ≤ 8)) (([] : List (S48))) 0 a1_0 a1_1 a1_2) = some (r1, r2) := h
 clear h
 obtain ⟨y797, hy797⟩ : ∃ y_ : List (S48), y_ = (([] : List (S48))) := ⟨_, rfl⟩
 replace H : (spec_CloseGroup.l0 k a0 l2 (decide ((l2.length : Int) ≤ 8)) y797 0 a1_0 a1_1 a1_2) = some (r1, r2) := by first | (rw [hy797]; with_reducible exact H) | (have H2_ := (Option.bind_some _ _).symm.trans H; rw [hy797]; with_reducible exact H2_) | (have H2_ := (Option.bind_some _ _).symm.trans H; with_reducible exact H2_) | with_reducible exact H | (rw [hy797]; exact H) | exact H
 have Ny797 := Aside0.mk hy797
 clear hy797
 have H' := Aside0.mk H
 clear H
 go_enter Tryz.func9, Tryz.ntmps9
 go_wp2_with (first | ((with_reducible refine gd 4 rfl ?_); (try (refine gate_guard (by rfl) ?_; dsimp only)); refine bx #[.int .i64 a1_0, .int .i64 a1_1, .int .i64 a1_2] 29 ?_; intro gb796 hg w4 BK796 hb; have GE796 := ngw0 hg HB; replace HB := bS0 HB hb; clear hb hg) | ((with_reducible refine gd 15 rfl ?_); (try (refine gate_guard (by rfl) ?_; dsimp only)); refine Kd.R_lit k48 _ 48 ?hg (N := 15) ?hd (xs := ([] : List (S48))) (inner := []) (ok := fun _ => True) (okp := fun _ => True) ?hr ?hp (fun _ hk => hk) trivial (Below.refl _ _) (Nat.le_refl _) (by simp) ?_; (case hd => rfl); (case hg => rfl); (case hr => first | (go_simp; done) | (go_simp; rfl)); (case hp => exact (Reps.none _ _)); intro v798 w5 ho6 hb hg_ hnew_; clear hg_ hnew_; (first | rw [← Ny797.out] at ho6 | (simp only [Int.reduceToNat] at ho6; rw [← Ny797.out] at ho6)); have HO799 := asd (Kd.R_lower ho6 (bsz1 HB GE796)); replace BK796 := bB BK796 hb; replace HB := bS1 HB GE796 hb; clear hb ho6))
 go_loopg [8, 9, 10] k (fun kq v8 v9 v10 w' => ∃ (x8_1 : Bool) (x9_1 : List (S48)) (x10_1 : Int), v8 = .bool x8_1 ∧ v10 = .int .i64 x10_1 ∧ Aside0 (spec_CloseGroup.l0 kq a0 l2 x8_1 x9_1 x10_1 a1_0 a1_1 a1_2 = some (r1, r2)) ∧ Aside0 (kq ≤ k) ∧ Aside0 (Kd.R k48 48 w' w.heap.size (fun _ => True) v9 x9_1) ∧ Aside0 (w'.heap[gb796]? = some (.cells #[.int .i64 a1_0, .int .i64 a1_1, .int .i64 a1_2] 29 (0, 0))) ∧ Aside0 (Below w.heap.size w w'))
 case atStart => exact ⟨(decide ((l2.length : Int) ≤ 8)), (y797), (0), (by first | rfl | (simp; done) | (simp [*]; done)), (by first | rfl | (simp; done) | (simp [*]; done)), H', ⟨Nat.le_refl _⟩, ⟨by (with_reducible repeat (first | apply Kd.R_alloc | apply Kd.R_drewN | apply Kd.R_drew)); exact HO799.out⟩, ⟨bkp BK796⟩, ⟨bbw1 HB GE796⟩⟩
 case round =>
  clear H'
  try clear c2
  try clear p2
  obtain ⟨x8_1, x9_1, x10_1, rfl, rfl, HA, HK1, HO_9, BK796, HB⟩ := hrel
  cases gk with
  | zero => exact absurd HA.out (by simp [spec_CloseGroup.l0])
  | succ k1 =>
   have H := HA.out
   clear HA
   simp only [spec_CloseGroup.l0] at H
   have HC7 := Aside0.mk H
   clear H
   go_upto_region 4 with (fail)
   go_cut [22] (fun v22 wc => ∃ (kq : Nat) (x22_6 : Bool), v22 = .bool x22_6 ∧ Aside0 (spec_CloseGroup.j1 kq a0 l2 x8_1 x9_1 x10_1 x22_6 a1_0 a1_1 a1_2 = some (r1, r2)) ∧ Aside0 (kq ≤ k1) ∧ Aside0 (Kd.R k48 48 wc w.heap.size (fun _ => True) u9 x9_1) ∧ Aside0 (wc.heap[gb796]? = some (.cells #[.int .i64 a1_0, .int .i64 a1_1, .int .i64 a1_2] 29 (0, 0))) ∧ Aside0 (Below w.heap.size w wc))
   case first =>
    have H := HC7.out
    clear HC7
    by_cases c8 : x8_1 = true
    ·subst c8
     replace H := ifT H
     have H' := Aside0.mk H
     clear H
     go_wp2
     go_meet
     case rel => exact ⟨_, (decide (x10_1 < (l2.length : Int))), (by first | rfl | (simp; done) | (simp [*]; done)), H', ⟨by have := HK1.out; first | omega | exact Nat.le_refl _⟩, ⟨by (with_reducible repeat (first | apply Kd.R_alloc | apply Kd.R_drewN | apply Kd.R_drew)); exact HO_9.out⟩, ⟨bkp BK796⟩, ⟨bbw1 HB GE796⟩⟩
    ·replace c8 := Bool.eq_false_iff.mpr c8
     subst c8
     replace H := ifF H
     have H' := Aside0.mk H
     clear H
     go_wp2
     go_meet
     case rel => exact ⟨_, (false), (by first | rfl | (simp; done) | (simp [*]; done)), H', ⟨by have := HK1.out; first | omega | exact Nat.le_refl _⟩, ⟨by (with_reducible repeat (first | apply Kd.R_alloc | apply Kd.R_drewN | apply Kd.R_drew)); exact HO_9.out⟩, ⟨bkp BK796⟩, ⟨bbw1 HB GE796⟩⟩
   case rest =>
    clear HC7
    try clear c2
    try clear p2
    try clear c8
    try clear p2
    obtain ⟨kq, x22_6, rfl, HA, HJ6, HO_9, BK796, HB⟩ := hcut
    cases kq with
    | zero => exact absurd HA.out (by simp [spec_CloseGroup.j1])
    | succ kj6 =>
     have H := HA.out
     clear HA
     simp only [spec_CloseGroup.j1] at H
     by_cases c9 : x22_6 = true
     subst c9
     replace H := ifT H
     by_cases c10 : x8_1 = true
     subst c10
     replace H := ifT H
     by_cases c11 : 0 ≤ x10_1
     rw [if_pos c11] at H
     have c11b0 := decide_eq_true c11
     clear c11
     by_cases c12 : x10_1 < (l2.length : Int)
     rw [if_pos c12] at H
     have c12b0 := decide_eq_true c12
     clear c12
     obtain ⟨t801, A13, H⟩ := ob H
     try dsimp only at H
     by_cases c14 : t801 = true
     subst c14
     replace H := ifT H
     obtain ⟨⟨t803, t804, t805, t806, t807, t808⟩, A15, H⟩ := ob H
     try dsimp only at H
     by_cases c16 : x9_1.length < 2932031007402
     rw [if_pos c16] at H
     have LMc16 := Aside0.mk c16
     clear c16
     obtain ⟨y809, hy809⟩ : ∃ y_ : List (S48), y_ = (x9_1 ++ [(⟨(⟨t803, t804, t805, t806⟩ : S46), (⟨t807, t808⟩ : S38)⟩ : S48)]) := ⟨_, rfl⟩
     replace H : (spec_CloseGroup.l0 kj6 a0 l2 true y809 (wrap64 (x10_1 + 1)) a1_0 a1_1 a1_2) = some (r1, r2) := by first | (rw [hy809]; with_reducible exact H) | (have H2_ := (Option.bind_some _ _).symm.trans H; rw [hy809]; with_reducible exact H2_) | (have H2_ := (Option.bind_some _ _).symm.trans H; with_reducible exact H2_) | with_reducible exact H | (rw [hy809]; exact H) | exact H
     have Ny809 := Aside0.mk hy809
     clear hy809
     have H' := Aside0.mk H
     clear H
     rotate_left
     ·rw [if_neg c16] at H
      exact absurd H (by simp)
     replace c14 := Bool.eq_false_iff.mpr c14
     subst c14
     replace H := ifF H
     have H' := Aside0.mk H
     clear H
     rotate_left
     ·rw [if_neg c12] at H
      exact absurd H (by simp)
     ·rw [if_neg c11] at H
      exact absurd H (by simp)
     replace c10 := Bool.eq_false_iff.mpr c10
     subst c10
     replace H := ifF H
     have H' := Aside0.mk H
     clear H
     rotate_left
     replace c9 := Bool.eq_false_iff.mpr c9
     subst c9
     replace H := ifF H
     obtain ⟨t812, A25, H⟩ := ob H
     try dsimp only at H
     by_cases c26 : t812 = 0
     rw [if_pos c26] at H
     have c26b0 : (t812 == 0) = true := beq_iff_eq.mpr c26
     have c26b1 : (t812 != 0) = false := bne_eq_false_iff_eq.mpr c26
     clear c26
     obtain ⟨t813, A27, H⟩ := ob H
     try dsimp only at H
     rotate_left
     rw [if_neg c26] at H
     have c26b0 : (t812 == 0) = false := beq_eq_false_iff_ne.mpr c26
     have c26b1 : (t812 != 0) = true := bne_iff_ne.mpr c26
     rotate_left
     rotate_left 3
     ·simp only [Option.some.injEq, Prod.mk.injEq] at H
      obtain ⟨rfl, rfl⟩ := H
      obtain ⟨hcz28_0, hcz28_1, hcz28_2, hfz28_0, hfz28_1, hfz28_2⟩ := bz3 BK796
      go_wp2_with (first | ((with_reducible refine gate_callee (f := 31) rfl ?_); refine gl 48 Tryz.func31 #[.int .i64 a0, .agg #[.int .i64 a1_0, .int .i64 a1_1, .int .i64 a1_2], .bool x8_1] ?_; (with_reducible refine (spec_l06Code.calls _ _ _ _ _ _ _ A25.out).mono ?_); rintro e w29 ⟨rfl, hb⟩; refine ⟨_, rfl, ?_⟩; replace HO_9 := asd (Kd.R_below (kr HO_9) hb); replace BK796 := bB BK796 hb; replace HB := bS1 HB GE796 hb; (try clear hb); obtain ⟨hcz30_0, hcz30_1, hcz30_2, hfz30_0, hfz30_1, hfz30_2⟩ := bz3 BK796; obtain ⟨Ao31, co31, eo31⟩ := Kd.R_slice HO_9.out; subst eo31) | ((with_reducible refine gate_callee (f := 32) rfl ?_); refine gl 54 Tryz.func32 #[.agg #[.int .i64 a1_0, .int .i64 a1_1, .int .i64 a1_2], .slice Ao31 x9_1.length co31] ?_; (with_reducible refine (spec_l06Close.calls _ _ _ _ _ _ _ _ _ ?side1 ?side2 A27.out).mono ?_); (case side1 => exact ks (Kd.R_reads' HO_9.out).2.2); (case side2 => exact (Kd.R_reads' HO_9.out).2.1); rintro e w32 ⟨v814, rfl, ho0, hb⟩; refine ⟨_, rfl, ?_⟩; have HO815 := asd (Kd.R_lower (Kd.R_new' ho0 (Kd.R_lt (kr HO_9))) (bsz1 HB GE796)); replace HO_9 := asd (Kd.R_elder' (kr HO_9) (Kd.R_base ho0) hb); replace BK796 := bB BK796 hb; replace HB := bS1 HB GE796 hb; (try clear hb); (try clear hb2); (try clear hk); (try clear hi); (try clear ho0)))
      go_ret2
      exact ⟨_, by first | rfl | (simp [errW_none, errW_some] <;> rfl) | (simp [*, errW_none, errW_some] <;> rfl), by (with_reducible repeat (first | apply Kd.R_alloc | apply Kd.R_drewN | apply Kd.R_drew)); exact Kd.R_mono HO815.out (fun _ hk => trivial), bbw1 HB GE796⟩
     ·simp only [Option.some.injEq, Prod.mk.injEq] at H
      obtain ⟨rfl, rfl⟩ := H
      obtain ⟨hcz33_0, hcz33_1, hcz33_2, hfz33_0, hfz33_1, hfz33_2⟩ := bz3 BK796
      go_wp2_with (first | ((with_reducible refine gate_callee (f := 31) rfl ?_); refine gl 48 Tryz.func31 #[.int .i64 a0, .agg #[.int .i64 a1_0, .int .i64 a1_1, .int .i64 a1_2], .bool x8_1] ?_; (with_reducible refine (spec_l06Code.calls _ _ _ _ _ _ _ A25.out).mono ?_); rintro e w34 ⟨rfl, hb⟩; refine ⟨_, rfl, ?_⟩; replace HO_9 := asd (Kd.R_below (kr HO_9) hb); replace BK796 := bB BK796 hb; replace HB := bS1 HB GE796 hb; (try clear hb)))
      go_ret2
      exact ⟨_, by first | rfl | (simp [errW_none, errW_some] <;> rfl) | (simp [*, errW_none, errW_some] <;> rfl), by first | exact Kd.R_nil _ _ _ _ _ | exact Kd.N_nil _ _ _ _ _ | exact Kd.V_nil _ _ _ _ _ | exact Kd.Q_nil _ _ _ _ _ | exact Kd.S_nil _ _ _ _ _, bbw1 HB GE796⟩
     all_goals
      try go_wp2
      replace HO_9 := asd (Kd.R_drew HO_9.out)
      replace BK796 := asd (blk_drew BK796.out)
      replace HB := asd (below_drew1 HB.out)
     rotate_left 2
     ·refine start_ (n := 11) (S := fun w' => True) (ds := []) (bT 11 0) (by kernel_rfl) rfl rfl trivial (fun hHeld => ?_); refine with_tabW spec_CloseGroup.tab6 spec_CloseGroup.bits6 (fun HT_ HW_ => ?_)
      generalize wc.drew = w24 at HO_9 BK796 HB hHeld ⊢
      refine pu 0 (some 25) (bT 11 1) HT_ ?_
      refine pu 1 (some 26) (bT 11 2) HT_ ?_
      refine pf 2 (some 27) (bT 11 3) HT_ ?_
      refine pf 3 (some 28) (bT 11 4) HT_ ?_
      refine pf 4 (some 29) (bT 11 5) HT_ ?_
      refine pf 5 (some 30) (bT 11 6) HT_ ?_
      refine pf 6 (some 31) (bT 11 7) HT_ ?_
      refine pf 7 (some 32) (bT 11 8) HT_ ?_
      refine pf 8 (some 33) (bT 11 9) HT_ ?_
      refine pu 9 (some 34) (bT 11 10) HT_ ?_
      refine pu 10 (some 8) (bT 11 11) HT_ ?_
      refine done_ (done_of HT_.out (by kernel_rfl)) ?_
      try go_wp2
      go_roundg kj6
      case measure => have := HK1.out; have := HJ6.out; omega
      case rel => exact ⟨(false), (x9_1), (wrap64 (x10_1 + 1)), (by first | rfl | (simp; done) | (simp [*]; done)), (by first | rfl | (simp; done) | (simp [*]; done)), H', ⟨by have := HK1.out; have := HJ6.out; omega⟩, ⟨by (with_reducible repeat (first | apply Kd.R_alloc | apply Kd.R_drewN | apply Kd.R_drew)); exact HO_9.out⟩, ⟨bkp BK796⟩, ⟨bbw1 HB GE796⟩⟩
     all_goals
      obtain ⟨p800, q800, ad800, e800, hw800_0, hw800_1, hw800_2, hw800_3, hw800_4, hw800_5, hx800_0, hx800_1, hx800_2, hx800_3, hx800_4, hx800_5⟩ := at_T48w HR2.out HB x10_1
      cases e800
      refine sh 11 (cb3 BK796 (ex6 HB hw800_0 hw800_1 hw800_2 hw800_3 hw800_4 hw800_5)) (fun hHeld => ?_); refine with_tabW spec_CloseGroup.tab6 spec_CloseGroup.bits6 (fun HT_ HW_ => ?_)
      generalize wc.drew = w17 at HO_9 BK796 HB hx800_0 hx800_1 hx800_2 hx800_3 hx800_4 hx800_5 hHeld ⊢
      refine pu 0 (some 25) (bT 11 1) HT_ ?_
      refine pu 1 (some 26) (bT 11 2) HT_ ?_
      refine pu 2 (some 27) (bT 11 3) HT_ ?_
      refine pu 4 (some 29) (bs 11 23) HT_ ?_
      refine pu 5 (some 30) (bs 11 55) HT_ ?_
      refine pu 6 (some 31) (bs 11 119) HT_ ?_
      refine ta 3 (some 28) (bT 11 7) HT_ HW_ hHeld ?_
      refine ta 7 (some 32) (bT 11 8) HT_ HW_ hHeld ?_
      refine ro 8 (some 33) (bT 11 9) HT_ (fun K hK => ?_)
      refine gs Tryz.func29 #[.int .i64 a0, .agg #[.int .i64 a1_0, .int .i64 a1_1, .int .i64 a1_2], .agg #[.int .i64 ((rd_T48 l2 x10_1).f0.f0), .int .i64 ((rd_T48 l2 x10_1).f0.f1), .int .i64 ((rd_T48 l2 x10_1).f0.f2), .int .i64 ((rd_T48 l2 x10_1).f0.f3), .int .i64 ((rd_T48 l2 x10_1).f1.f0), .int .i64 ((rd_T48 l2 x10_1).f1.f1)]] ?_
      with_reducible refine (spec_IsSuitable.calls _ _ _ _ _ _ _ _ _ _ _ _ _ A13.out).mono ?_
      rintro e w18 ⟨rfl, hb⟩
      refine ⟨_, rfl, ?_⟩
      replace HO_9 := asd (Kd.R_below (kr HO_9) hb)
      replace BK796 := bB BK796 hb
      replace HB := bS1 HB GE796 hb
      (try clear hb)
      (try clear hb2)
      (try clear hk)
      (try clear hi)
      refine hK.out _ _ (cb3 BK796 (ex6 HB hw800_0 hw800_1 hw800_2 hw800_3 hw800_4 hw800_5)).out (fun hHeld => ?_)
      clear hK K
      refine norm_ (a' := ?_) ?_ ?_
      rotate_left
      ·show Act.put _ (some 33) _ = _
       simp only [Act.put, sA, sB, sC, i64_w, i32_w]
       rfl
      refine pu 9 (some 34) (bT 11 10) HT_ ?_
      refine pu 10 (some 8) (bT 11 11) HT_ ?_
      refine done_ (done_of HT_.out (by kernel_rfl)) ?_
      try go_wp2
     ·replace HO_9 := asd (Kd.R_drew HO_9.out)
      replace BK796 := asd (blk_drew BK796.out)
      replace HB := asd (below_drew1 HB.out)
      obtain ⟨p802, q802, ad802, e802, hw802_0, hw802_1, hw802_2, hw802_3, hw802_4, hw802_5, hx802_0, hx802_1, hx802_2, hx802_3, hx802_4, hx802_5⟩ := at_T48w HR2.out HB x10_1
      obtain rfl : ad800 = ad802 := (by injection e802)
      refine sh 10 (cb3 BK796 (ex6 HB hw802_0 hw802_1 hw802_2 hw802_3 hw802_4 hw802_5)) (fun hHeld => ?_); refine with_tabW spec_CloseGroup.tab8 spec_CloseGroup.bits8 (fun HT_ HW_ => ?_)
      generalize w18.drew = w19 at HO_9 BK796 HB hx802_0 hx802_1 hx802_2 hx802_3 hx802_4 hx802_5 hHeld ⊢
      refine pu 0 (some 36) (bT 10 1) HT_ ?_
      refine pu 2 (some 38) (bs 10 5) HT_ ?_
      refine pu 3 (some 39) (bs 10 13) HT_ ?_
      refine pu 4 (some 40) (bs 10 29) HT_ ?_
      refine ta 1 (some 37) (bT 10 5) HT_ HW_ hHeld ?_
      refine ta 5 (some 41) (bT 10 6) HT_ HW_ hHeld ?_
      refine ro 6 (some 42) (bT 10 7) HT_ (fun K hK => ?_)
      refine gs Tryz.func30 #[.agg #[.int .i64 a1_0, .int .i64 a1_1, .int .i64 a1_2], .agg #[.int .i64 ((rd_T48 l2 x10_1).f0.f0), .int .i64 ((rd_T48 l2 x10_1).f0.f1), .int .i64 ((rd_T48 l2 x10_1).f0.f2), .int .i64 ((rd_T48 l2 x10_1).f0.f3), .int .i64 ((rd_T48 l2 x10_1).f1.f0), .int .i64 ((rd_T48 l2 x10_1).f1.f1)]] ?_
      with_reducible refine (spec_l06Reduce.calls _ _ _ _ _ _ _ _ _ _ _ _ _ _ _ _ A15.out).mono ?_
      rintro e w20 ⟨rfl, hb⟩
      refine ⟨_, rfl, ?_⟩
      replace HO_9 := asd (Kd.R_below (kr HO_9) hb)
      replace BK796 := bB BK796 hb
      replace HB := bS1 HB GE796 hb
      (try clear hb)
      (try clear hb2)
      (try clear hk)
      (try clear hi)
      refine hK.out _ _ (cb3 BK796 (ex6 HB hw802_0 hw802_1 hw802_2 hw802_3 hw802_4 hw802_5)).out (fun hHeld => ?_)
      clear hK K
      refine norm_ (a' := ?_) ?_ ?_
      rotate_left
      ·show Act.put _ (some 42) _ = _
       simp only [Act.put, sA, sB, sC, i64_w, i32_w]
       rfl
      refine ro 7 (some 43) (bT 10 8) HT_ (fun K hK => ?_)
      refine value_ (w1 := ?_) (v := ?_) (by rfl) rfl ?_ ?_
      rotate_left 2
      ·go_simp
       constructor
       ·rfl
       ·rfl
      refine hK.out _ _ ⟨(blk_cell (blk_alloc BK796.out _) 0).trans rfl, (blk_cell (blk_alloc BK796.out _) 1).trans rfl, (blk_cell (blk_alloc BK796.out _) 2).trans rfl, (World.cell?_alloc_lt _ _ _ (World.block_lt_of_cell? _ _ ((xb HB hw802_0)))).trans ((xb HB hw802_0)), (World.cell?_alloc_lt _ _ _ (World.block_lt_of_cell? _ _ ((xb HB hw802_1)))).trans ((xb HB hw802_1)), (World.cell?_alloc_lt _ _ _ (World.block_lt_of_cell? _ _ ((xb HB hw802_2)))).trans ((xb HB hw802_2)), (World.cell?_alloc_lt _ _ _ (World.block_lt_of_cell? _ _ ((xb HB hw802_3)))).trans ((xb HB hw802_3)), (World.cell?_alloc_lt _ _ _ (World.block_lt_of_cell? _ _ ((xb HB hw802_4)))).trans ((xb HB hw802_4)), (World.cell?_alloc_lt _ _ _ (World.block_lt_of_cell? _ _ ((xb HB hw802_5)))).trans ((xb HB hw802_5))⟩ (fun hHeld => ?_)
      clear hK K
      refine norm_ (a' := ?_) ?_ ?_
      rotate_left
      ·show Act.put _ (some 43) _ = _
       simp only [Act.put, sA, sB, sC, i64_w, i32_w]
       rfl
      refine ro 8 (some 44) (bT 10 9) HT_ (fun K hK => ?_)
      refine Kd.R_append_step k48 (w0 := w) w.heap.size (by rfl) (.tmp 36) (.tmp 43) 26 48 (.agg #[(.int .i64 0), (.int .i64 0), (.int .i64 0), (.int .i64 0), (.int .i64 0), (.int .i64 0)]) 48 rfl Tryz.underlying26 info48 rfl (by decide) (by omega) u9 x9_1 (⟨(⟨t803, t804, t805, t806⟩ : S46), (⟨t807, t808⟩ : S38)⟩ : S48) [.int .i64 t803, .int .i64 t804, .int .i64 t805, .int .i64 t806, .int .i64 t807, .int .i64 t808] (fun _ => True) (fun _ => False) rfl rfl ?aP (fun _ hk => hk.elim) ?aF ?aO ?aB ?aS ?aL ?_
      (case aP => exact k48_mkM _ _ _ (⟨(⟨t803, t804, t805, t806⟩ : S46), (⟨t807, t808⟩ : S38)⟩ : S48))
      (case aB => exact (bbw1 HB GE796))
      (case aF => exact (fun _ _ => trivial))
      (case aO => exact (kr HO_9))
      (case aS => exact (bsz1 HB GE796))
      (case aL => have := LMc16.out; omega)
      intro v810 w21 ho hb hg hat
      rw [← Ny809.out] at ho
      have n0_ := asd (blk_grown (g := gb796) (o := .cells #[.int .i64 a1_0, .int .i64 a1_1, .int .i64 a1_2] 29 (0, 0)) (bkp BK796) hg (Kd.R_ne HO_9.out BK796.out (by decide)))
      have n1_ := asd (hb)
      have n2_ := asd (ho)
      clear BK796
      clear HB
      clear HO_9
      have BK796 := n0_
      have HB := n1_
      have HO811 := n2_
      clear n0_ n1_ n2_
      clear ho hb hg hat
      refine hK.out _ _ (cb3 BK796 (ex6 HB hw802_0 hw802_1 hw802_2 hw802_3 hw802_4 hw802_5)).out (fun hHeld => ?_)
      clear hK K
      refine norm_ (a' := ?_) ?_ ?_
      rotate_left
      ·show Act.put _ (some 44) _ = _
       simp only [Act.put, sA, sB, sC, i64_w, i32_w]
       rfl
      refine pu 9 (some 9) (bT 10 10) HT_ ?_
      refine done_ (done_of HT_.out (by kernel_rfl)) ?_
      try go_wp2
      go_roundg kj6
      case measure => have := HK1.out; have := HJ6.out; omega
      case rel => exact ⟨(true), (y809), (wrap64 (x10_1 + 1)), (by first | rfl | (simp; done) | (simp [*]; done)), (by first | rfl | (simp; done) | (simp [*]; done)), H', ⟨by have := HK1.out; have := HJ6.out; omega⟩, ⟨by (with_reducible repeat (first | apply Kd.R_alloc | apply Kd.R_drewN | apply Kd.R_drew)); exact HO811.out⟩, ⟨bkp BK796⟩, ⟨bbw1 HB GE796⟩⟩
     ·go_roundg kj6
      case measure => have := HK1.out; have := HJ6.out; omega
      case rel => exact ⟨(false), (x9_1), (wrap64 (x10_1 + 1)), (by first | rfl | (simp; done) | (simp [*]; done)), (by first | rfl | (simp; done) | (simp [*]; done)), H', ⟨by have := HK1.out; have := HJ6.out; omega⟩, ⟨by (with_reducible repeat (first | apply Kd.R_alloc | apply Kd.R_drewN | apply Kd.R_drew)); exact HO_9.out⟩, ⟨bkp BK796⟩, ⟨bbw1 HB GE796⟩⟩
def impl_Motion_68.f (p : S48 → Bool) (l : List S48) : Int := match l.findIdx? p with | some i => i | none => -1
theorem impl_Motion_68.rd_get (l : List S48) (j : Nat) (h : j < l.length) : rd_T48 l (j : Int) = l[j] := by
 unfold rd_T48; rw [Int.toNat_natCast]; simp [List.getD, h]
theorem impl_Motion_68.rd_in (l : List S48) (x : Int) (h0 : 0 ≤ x) (h1 : x < (l.length : Int)) : rd_T48 l x ∈ l := by
 obtain ⟨k, rfl⟩ := Int.eq_ofNat_of_zero_le h0
 rw [impl_Motion_68.rd_get l k (by omega)]; exact List.getElem_mem _
theorem impl_Motion_68.hit (p : S48 → Bool) (l : List S48) (x : Int) (h0 : 0 ≤ x) (hx : x < l.length) (h : p (rd_T48 l x) = true) (hb : ∀ j : Nat, (j : Int) < x → p (rd_T48 l (j : Int)) = false) : impl_Motion_68.f p l = x := by
 obtain ⟨k, rfl⟩ := Int.eq_ofNat_of_zero_le h0
 have hk : k < l.length := by omega
 rw [impl_Motion_68.rd_get l k hk] at h
 unfold impl_Motion_68.f
 have : l.findIdx? p = some k := by
  rw [List.findIdx?_eq_some_iff_getElem]
  refine ⟨hk, h, fun j hj => ?_⟩
  have := hb j (by omega)
  rw [impl_Motion_68.rd_get l j (by omega)] at this
  simpa using this
 rw [this]
theorem impl_Motion_68.miss (p : S48 → Bool) (l : List S48) (hb : ∀ j : Nat, (j : Int) < l.length → p (rd_T48 l (j : Int)) = false) : impl_Motion_68.f p l = -1 := by
 unfold impl_Motion_68.f
 have : l.findIdx? p = none := by
  rw [List.findIdx?_eq_none_iff]
  intro x hx
  obtain ⟨j, hj, rfl⟩ := List.getElem_of_mem hx
  have := hb j (by omega)
  rw [impl_Motion_68.rd_get l j hj] at this
  exact this
 rw [this]
set_option maxHeartbeats 2000000 in
theorem impl_Motion_68.calls_some (p : S48 → Bool) (g : Nat) (lb : Array Value) (eg : ∀ args w, (callFunc g args).run Tryz.prog w = .ok (.enter g args) w) (ad : Addr) (c : Nat) (l : List S48) (w : World) (hr : Kd.C k48 w (some ad) l.length l)
  (hp : ∀ x ∈ l, ∀ (W : World), Below w.heap.size w W → Calls Tryz.prog g (#[.agg #[.int .i64 x.f0.f0, .int .i64 x.f0.f1, .int .i64 x.f0.f2, .int .i64 x.f0.f3, .int .i64 x.f1.f0, .int .i64 x.f1.f1]] ++ lb) W fun e w' => e = .returned (.bool (p x)) ∧ Below w.heap.size w w') :
  Calls Tryz.prog 68 #[.slice (some ad) l.length c, .func (.func g) #[] lb] w fun e w' => e = .returned (.int .i64 (impl_Motion_68.f p l)) ∧ Below w.heap.size w w' := by
 have hu33 := Tryz.underlying48
 have hu34 := Tryz.underlying46
 have hu35 := Tryz.underlying38
 have hbig := Kd.C_max hr
 have HR := Aside0.mk hr
 have HP := Aside0.mk hp
 clear hr hp
 have hbig' : l.length ≤ 9223372036854775807 := hbig
 have HBIG := Aside0.mk hbig'
 clear hbig hbig'
 go_enter Tryz.func68, Tryz.ntmps68
 go_wp2
 go_loopg [5, 8] l.length (fun gg _ s8 wr => ∃ x : Int, s8 = .int .i64 x ∧ Aside0 (0 ≤ x ∧ x ≤ l.length ∧ (l.length : Int) - x ≤ gg) ∧ Aside0 (Below w.heap.size w wr) ∧ Aside0 (∀ j : Nat, (j : Int) < x → p (rd_T48 l (j : Int)) = false))
 case atStart => exact ⟨0, rfl, ⟨by omega⟩, ⟨Below.refl _ w⟩, ⟨fun j hj => absurd hj (by omega)⟩⟩
 case round =>
  obtain ⟨x, rfl, HX, BW, AA⟩ := hrel
  by_cases c4 : x < (l.length : Int)
  ·have c4b0 : decide (x < (l.length : Int)) = true := decide_eq_true c4
   have c5b0 : decide (0 ≤ x) = true := decide_eq_true HX.out.1
   have hcall := HP.out (rd_T48 l x) (impl_Motion_68.rd_in l x HX.out.1 c4) wr BW.out
   obtain ⟨ad', e', hx0, hx1, hx2, hx3, hx4, hx5⟩ := at_T48 HR.out x HX.out.1 c4
   cases e'
   replace hx0 := (BW.out.cell (World.block_lt_of_cell? w _ hx0)).trans hx0
   replace hx1 := (BW.out.cell (World.block_lt_of_cell? w _ hx1)).trans hx1
   replace hx2 := (BW.out.cell (World.block_lt_of_cell? w _ hx2)).trans hx2
   replace hx3 := (BW.out.cell (World.block_lt_of_cell? w _ hx3)).trans hx3
   replace hx4 := (BW.out.cell (World.block_lt_of_cell? w _ hx4)).trans hx4
   replace hx5 := (BW.out.cell (World.block_lt_of_cell? w _ hx5)).trans hx5
   have C4 := Aside0.mk c4
   clear c4
   generalize hy : rd_T48 l x = y at hcall hx0 hx1 hx2 hx3 hx4 hx5
   have HY := Aside0.mk hy
   clear hy
   have p5 : 0 ≤ x := HX.out.1
   have p215 := eq_true p5
   have q215 : (x < (l.length : Int)) = True := eq_true C4.out
   clear p5
   cases hq : p y with
   | true =>
    rw [hq] at hcall
    have HQ := Aside0.mk hq
    clear hq
    go_wp2_with (go_at_fn g; refine hcall.mono ?_; rintro e w' ⟨rfl, hb'⟩)
    go_ret
    refine ⟨?_, hb'⟩
    rw [impl_Motion_68.hit p l x HX.out.1 C4.out (by rw [HY.out]; exact HQ.out) AA.out]
    rfl
   | false =>
    rw [hq] at hcall
    have HQ := Aside0.mk hq
    clear hq
    go_wp2_with (go_at_fn g; refine hcall.mono ?_; rintro e w' ⟨rfl, hb'⟩)
    have hw : wrap64 (x + 1) = x + 1 := by
     have h1 := HX.out; have h2 := HBIG.out; have h3 := C4.out
     unfold wrap64; omega
    go_roundg ((l.length : Int) - (x + 1)).toNat
    case measure => have h1 := HX.out; have h3 := C4.out; omega
    case rel =>
     refine ⟨wrap64 (x + 1), rfl, ⟨?_⟩, ⟨hb'⟩, ⟨fun j hj => ?_⟩⟩
     ·have h1 := HX.out; have h3 := C4.out; rw [hw]; omega
     ·rw [hw] at hj
      by_cases e : (j : Int) = x
      ·rw [e, HY.out]; exact HQ.out
      ·exact AA.out j (by omega)
  ·have c4b0 : decide (x < (l.length : Int)) = false := decide_eq_false c4
   have hxe : x = l.length := by have := HX.out; omega
   have C4 := Aside0.mk hxe
   clear c4 hxe
   go_wp2
   go_ret
   refine ⟨?_, BW.out⟩
   rw [impl_Motion_68.miss p l (by rw [← C4.out]; exact AA.out)]
   rfl
set_option maxHeartbeats 2000000 in
theorem impl_Motion_68.calls_empty (p : S48 → Bool) (A : Option Addr) (c : Nat) (fv : Value) (w : World) :
  Calls Tryz.prog 68 #[.slice A 0 c, fv] w fun e w' => e = .returned (.int .i64 (impl_Motion_68.f p [])) ∧ Below w.heap.size w w' := by
 go_enter Tryz.func68, Tryz.ntmps68
 go_wp2
 go_loopg [5, 8] 0 (fun _ _ s8 wr => s8 = .int .i64 0 ∧ wr = w)
 case atStart => exact ⟨rfl, rfl⟩
 case round =>
  obtain ⟨rfl, rfl⟩ := hrel
  go_wp2
  go_ret
  exact ⟨rfl, Below.refl _ _⟩
theorem impl_Motion_68.calls (p : S48 → Bool) (g : Nat) (lb : Array Value) (eg : ∀ args w, (callFunc g args).run Tryz.prog w = .ok (.enter g args) w) (A : Option Addr) (c : Nat) (l : List S48) (w : World) (hr : Kd.C k48 w A l.length l)
  (hp : ∀ x ∈ l, ∀ (W : World), Below w.heap.size w W → Calls Tryz.prog g (#[.agg #[.int .i64 x.f0.f0, .int .i64 x.f0.f1, .int .i64 x.f0.f2, .int .i64 x.f0.f3, .int .i64 x.f1.f0, .int .i64 x.f1.f1]] ++ lb) W fun e w' => e = .returned (.bool (p x)) ∧ Below w.heap.size w w') :
  Calls Tryz.prog 68 #[.slice A l.length c, .func (.func g) #[] lb] w fun e w' => e = .returned (.int .i64 (impl_Motion_68.f p l)) ∧ Below w.heap.size w w' := by
 cases l with
 | nil => exact impl_Motion_68.calls_empty p A c _ w
 | cons x xs =>
  obtain ⟨ad, rfl, _⟩ := hr.2.2 (by simp)
  exact impl_Motion_68.calls_some p g lb eg ad c (x :: xs) w hr hp
theorem impl_Motion_34.any_of (p : S48 → Bool) (l : List S48) : decide (0 ≤ impl_Motion_68.f p l) = l.any p := by
 unfold impl_Motion_68.f
 cases h : l.findIdx? p with
 | none =>
  have : l.any p = false := by
   rw [List.any_eq_false]
   intro x hx
   simpa using List.findIdx?_eq_none_iff.1 h x hx
  rw [this]; rfl
 | some i =>
  have : l.any p = true := by
   obtain ⟨hi, hp, _⟩ := List.findIdx?_eq_some_iff_getElem.1 h
   exact List.any_eq_true.2 ⟨_, List.getElem_mem hi, hp⟩
  rw [this]; simp
set_option maxHeartbeats 1000000 in
theorem impl_Motion_34.calls (p : S48 → Bool) (g : Nat) (lb : Array Value) (eg : ∀ args w, (callFunc g args).run Tryz.prog w = .ok (.enter g args) w) (A : Option Addr) (c : Nat) (l : List S48) (w : World) (hr : Kd.C k48 w A l.length l)
  (hp : ∀ x ∈ l, ∀ (W : World), Below w.heap.size w W → Calls Tryz.prog g (#[.agg #[.int .i64 x.f0.f0, .int .i64 x.f0.f1, .int .i64 x.f0.f2, .int .i64 x.f0.f3, .int .i64 x.f1.f0, .int .i64 x.f1.f1]] ++ lb) W fun e w' => e = .returned (.bool (p x)) ∧ Below w.heap.size w w') :
  Calls Tryz.prog 34 #[.slice A l.length c, .func (.func g) #[] lb] w fun e w' => e = .returned (.bool (l.any p)) ∧ Below w.heap.size w w' := by
 have hcon := impl_Motion_68.calls p g lb eg A c l w hr hp
 rw [← impl_Motion_34.any_of p l]
 generalize impl_Motion_68.f p l = r at hcon
 clear hp hr
 go_enter Tryz.func34, Tryz.ntmps34
 go_wp2_with (go_at_call 68; refine hcon.mono ?_; rintro e w' ⟨rfl, hb'⟩)
 go_ret
 exact ⟨rfl, hb'⟩
def impl_isCoordinate.f (a0 : Int) : Option (Bool) := (impl_within.f a0 (-1000) 1000).bind fun t816 => (some t816)
theorem impl_isCoordinate.calls (a0 : Int) (r : Bool) (w : World) (h : impl_isCoordinate.f a0 = some r) :
  Calls Tryz.prog 82 #[.int .i64 a0] w fun e w' => e = .returned (.bool r) ∧ Drawn0 w w' := by
 have H : ((impl_within.f a0 (-1000) 1000).bind fun t816 => (some t816)) = some r := h
 clear h
 obtain ⟨t816, A2, H⟩ := ob H
 try dsimp only at H
 obtain rfl := Option.some.inj H
 go_enter Tryz.func82, Tryz.ntmps82
 go_wp2_with (first | ((with_reducible refine gate_callee (f := 99) rfl ?_); refine gl 4 Tryz.func99 #[.int .i64 a0, .int .i64 (-1000), .int .i64 1000] ?_; (with_reducible refine (impl_within.calls _ _ _ _ _ A2.out).mono ?_); rintro e w' ⟨rfl, ⟨nd, rfl⟩⟩; refine ⟨_, rfl, ?_⟩))
 go_ret
 exact ⟨by first | rfl | (simp; done) | (simp [*]; done), by repeat (first | exact Drawn0.refl _ | apply Drawn0.step)⟩
def impl_IsVec.f (a0_0 : Int) (a0_1 : Int) : Option (Bool) := (impl_isCoordinate.f a0_0).bind fun t818 => (if t818 = true then ((impl_isCoordinate.f a0_1).bind fun t819 => (some t819)) else (some false))
theorem impl_IsVec.calls (a0_0 : Int) (a0_1 : Int) (r : Bool) (w : World) (h : impl_IsVec.f a0_0 a0_1 = some r) :
  Calls Tryz.prog 46 #[.agg #[.int .i64 a0_0, .int .i64 a0_1]] w fun e w' => e = .returned (.bool r) ∧ Below w.heap.size w w' := by
 have hu38 := Tryz.underlying38
 have HB := asd (Below.refl w.heap.size w)
 have H : ((impl_isCoordinate.f a0_0).bind fun t818 => (if t818 = true then ((impl_isCoordinate.f a0_1).bind fun t819 => (some t819)) else (some false))) = some r := h
 clear h
 obtain ⟨t818, A2, H⟩ := ob H
 try dsimp only at H
 by_cases c3 : t818 = true
 subst c3
 replace H := ifT H
 obtain ⟨t819, A4, H⟩ := ob H
 try dsimp only at H
 obtain rfl := Option.some.inj H
 rotate_left
 replace c3 := Bool.eq_false_iff.mpr c3
 subst c3
 replace H := ifF H
 obtain rfl := Option.some.inj H
 rotate_left
 all_goals
  go_enter Tryz.func46, Tryz.ntmps46
  go_wp2_with (first | ((with_reducible refine gd 1 rfl ?_); refine bx #[.int .i64 a0_0, .int .i64 a0_1] 38 ?_; intro gb817 hg w5 BK817 hb; have GE817 := ngw0 hg HB; replace HB := bS0 HB hb; clear hb hg; obtain ⟨hcz6_0, hcz6_1, hfz6_0, hfz6_1⟩ := bz2 BK817) | ((with_reducible refine gate_callee (f := 82) rfl ?_); refine gl 5 Tryz.func82 #[.int .i64 a0_0] ?_; (with_reducible refine (impl_isCoordinate.calls _ _ _ A2.out).mono ?_); rintro e w' ⟨rfl, ⟨nd, rfl⟩⟩; refine ⟨_, rfl, ?_⟩) | (go_at_call 82; (with_reducible refine (impl_isCoordinate.calls _ _ _ A4.out).mono ?_); rintro e w' ⟨rfl, ⟨nd, rfl⟩⟩))
  go_ret
  exact er (bbw1 HB GE817)
def impl_isSuitable.f (k : Nat) (a0 : Int) (a1_0 : Int) (a1_1 : Int) (a1_2 : Int) (a2_0 : Int) (a2_1 : Int) (a2_2 : Int) (a2_3 : Int) (a2_4 : Int) (a2_5 : Int) : Option (Bool) := (impl_IsVec.f a2_4 a2_5).bind fun t822 => (if t822 = true then ((impl_latticeMats.f k a0 a1_0 a1_1 a1_2).bind fun t823 => ((impl_Mat_69.f k t823 a2_0 a2_1 a2_2 a2_3).bind fun t826 => (some t826))) else (some false))
def impl_isSuitable.T1 : Bool × List (List Nat × List Nat) := (true, [([], []), ([0], [0]), ([1], [1]), ([2, 2], [2]), ([3], [3]), ([3], [3]), ([4, 5, 3, 3], [3, 4, 5]), ([3], [3]), ([7, 3], [3, 7]), ([6, 8, 6, 3], [3, 6, 8]), ([3, 9], [3, 9]), ([10, 9, 0, 1, 2, 3, 4, 5, 6, 7, 8, 9, 10], [10])])
def impl_isSuitable.B1 : List Nat := [0, 1, 3, 7, 15, 15, 63, 15, 143, 511, 1023, 2047]
theorem impl_isSuitable.tab1 : rtab .any (opsOf Tryz.f36 1) = impl_isSuitable.T1 := by kernel_rfl
theorem impl_isSuitable.bits1 : waitsOk impl_isSuitable.T1.2 impl_isSuitable.B1 = true := by kernel_rfl
theorem impl_isSuitable.calls (k : Nat) (a0 : Int) (a1_0 : Int) (a1_1 : Int) (a1_2 : Int) (a2_0 : Int) (a2_1 : Int) (a2_2 : Int) (a2_3 : Int) (a2_4 : Int) (a2_5 : Int) (r : Bool) (w : World) (h : impl_isSuitable.f k a0 a1_0 a1_1 a1_2 a2_0 a2_1 a2_2 a2_3 a2_4 a2_5 = some r) :
  Calls Tryz.prog 36 #[.int .i64 a0, .agg #[.int .i64 a1_0, .int .i64 a1_1, .int .i64 a1_2], .agg #[.int .i64 a2_0, .int .i64 a2_1, .int .i64 a2_2, .int .i64 a2_3, .int .i64 a2_4, .int .i64 a2_5]] w fun e w' => e = .returned (.bool r) ∧ Below w.heap.size w w' := by
 have hu29 := Tryz.underlying29
 have hu48 := Tryz.underlying48
 have hu38 := Tryz.underlying38
 have hu46 := Tryz.underlying46
 have HB := asd (Below.refl w.heap.size w)
 have H : ((impl_IsVec.f a2_4 a2_5).bind fun t822 => (if t822 = true then ((impl_latticeMats.f k a0 a1_0 a1_1 a1_2).bind fun t823 => ((impl_Mat_69.f k t823 a2_0 a2_1 a2_2 a2_3).bind fun t826 => (some t826))) else (some false))) = some r := h
 clear h
 obtain ⟨t822, A4, H⟩ := ob H
 try dsimp only at H
 by_cases c5 : t822 = true
 subst c5
 replace H := ifT H
 obtain ⟨t823, A6, H⟩ := ob H
 try dsimp only at H
 obtain ⟨t826, A7, H⟩ := ob H
 try dsimp only at H
 obtain rfl := Option.some.inj H
 rotate_left
 replace c5 := Bool.eq_false_iff.mpr c5
 subst c5
 replace H := ifF H
 obtain rfl := Option.some.inj H
 rotate_left
 all_goals
  go_enter Tryz.func36, Tryz.ntmps36
  try go_wp2_with (first | ((with_reducible refine gd 4 rfl ?_); refine bx #[.int .i64 a1_0, .int .i64 a1_1, .int .i64 a1_2] 29 ?_; intro gb820 hg w8 BK820 hb; have GE820 := ngw0 hg HB; replace HB := bS0 HB hb; clear hb hg) | ((with_reducible refine gd 5 rfl ?_); refine bx #[.int .i64 a2_0, .int .i64 a2_1, .int .i64 a2_2, .int .i64 a2_3, .int .i64 a2_4, .int .i64 a2_5] 48 ?_; intro gb821 hg w9 BK821 hb; have GE821 := ngw1 hg HB GE820; replace HB := bS1 HB GE820 hb; have NB820_821 := nlt hg BK820; have NB821_820 := nsy (nlt hg BK820); replace BK820 := bB BK820 hb; clear hb hg))
  replace BK820 := asd (blk_drew BK820.out)
  replace BK821 := asd (blk_drew BK821.out)
  replace HB := asd (below_drew1 HB.out)
 refine sh 12 (cb6 BK821 (eb3 BK820)) (fun hHeld => ?_); refine with_tabW impl_isSuitable.tab1 impl_isSuitable.bits1 (fun HT_ HW_ => ?_)
 rotate_left
 refine sh 12 (eb6 BK821) (fun hHeld => ?_); refine with_tabW impl_isSuitable.tab1 impl_isSuitable.bits1 (fun HT_ HW_ => ?_)
 rotate_left
 all_goals
  generalize w9.drew = w10 at BK820 BK821 HB hHeld ⊢
  refine pu 0 (some 7) (bT 12 1) HT_ ?_
  refine ta 1 (some 8) (bT 12 2) HT_ HW_ hHeld ?_
  refine ro 2 (some 9) (bT 12 3) HT_ (fun K hK => ?_)
  refine gs Tryz.func46 #[.agg #[.int .i64 a2_4, .int .i64 a2_5]] ?_
  with_reducible refine (impl_IsVec.calls _ _ _ _ A4.out).mono ?_
  rintro e w11 ⟨rfl, hb⟩
  refine ⟨_, rfl, ?_⟩
  replace BK820 := bB BK820 hb
  replace BK821 := bB BK821 hb
  replace HB := bS2 HB GE820 GE821 hb
  (try clear hb)
  (try clear hb2)
  (try clear hk)
  (try clear hi)
 refine hK.out _ _ (cb6 BK821 (eb3 BK820)).out (fun hHeld => ?_)
 rotate_left
 refine hK.out _ _ (eb6 BK821).out (fun hHeld => ?_)
 rotate_left
 all_goals
  clear hK K
  refine norm_ (a' := ?_) ?_ ?_
  rotate_left
  ·show Act.put _ (some 9) _ = _
   simp only [Act.put, sA, sB, sC, i64_w, i32_w]
   rfl
  refine pu 3 (some 10) (bT 12 4) HT_ ?_
 ·refine pu 4 (some 11) (bT 12 5) HT_ ?_
  refine pu 7 (some 14) (bs 12 159) HT_ ?_
  refine ta 5 (some 12) (bs 12 191) HT_ HW_ hHeld ?_
  refine ta 8 (some 15) (bs 12 447) HT_ HW_ hHeld ?_
  refine ro 6 (some 13) (bT 12 9) HT_ (fun K hK => ?_)
  refine gs Tryz.func70 #[.int .i64 a0, .agg #[.int .i64 a1_0, .int .i64 a1_1, .int .i64 a1_2]] ?_
  with_reducible refine (impl_latticeMats.calls _ _ _ _ _ _ _ A6.out).mono ?_
  rintro e w12 ⟨v824, rfl, ho0, hb⟩
  refine ⟨_, rfl, ?_⟩
  have HO825 := asd (Kd.R_lower ho0 (bsz2 HB GE820 GE821))
  replace BK820 := bB BK820 hb
  replace BK821 := bB BK821 hb
  replace HB := bS2 HB GE820 GE821 hb
  (try clear hb)
  (try clear hb2)
  (try clear hk)
  (try clear hi)
  (try clear ho0)
  obtain ⟨Ao13, co13, eo13⟩ := Kd.R_slice HO825.out
  (first | subst eo13 | (injection eo13 with f1_ f2_ f3_; have f4_ := f1_.symm; have f5_ := f3_.symm; clear f1_ f2_ f3_; subst f4_; subst f5_))
  refine hK.out _ _ (cb6 BK821 (eb3 BK820)).out (fun hHeld => ?_)
  clear hK K
  refine norm_ (a' := ?_) ?_ ?_
  rotate_left
  ·show Act.put _ (some 13) _ = _
   simp only [Act.put, sA, sB, sC, i64_w, i32_w]
   rfl
  refine ro 9 (some 16) (bT 12 10) HT_ (fun K hK => ?_)
  refine gs Tryz.func69 #[.slice Ao13 t823.length co13, .agg #[.int .i64 a2_0, .int .i64 a2_1, .int .i64 a2_2, .int .i64 a2_3]] ?_
  with_reducible refine (impl_Mat_69.calls _ _ _ _ _ _ _ _ _ _ ?side1 ?side2 A7.out).mono ?_
  (case side1 => exact ks (Kd.R_reads' HO825.out).2.2)
  (case side2 => exact (Kd.R_reads' HO825.out).2.1)
  rintro e w14 ⟨rfl, hb⟩
  refine ⟨_, rfl, ?_⟩
  replace HO825 := asd (Kd.R_below (kr HO825) hb)
  replace BK820 := bB BK820 hb
  replace BK821 := bB BK821 hb
  replace HB := bS2 HB GE820 GE821 hb
  (try clear hb)
  (try clear hb2)
  (try clear hk)
  (try clear hi)
  refine hK.out _ _ (cb6 BK821 (eb3 BK820)).out (fun hHeld => ?_)
  clear hK K
  refine norm_ (a' := ?_) ?_ ?_
  rotate_left
  ·show Act.put _ (some 16) _ = _
   simp only [Act.put, sA, sB, sC, i64_w, i32_w]
   rfl
  refine pu 10 (some 17) (bT 12 11) HT_ ?_
  refine pu 11 (some 6) (bT 12 12) HT_ ?_
  refine done_ (done_of HT_.out (by kernel_rfl)) ?_
  try go_wp2
  go_ret
  exact er (bbw2 HB GE820 GE821)
 ·refine pf 4 (some 11) (bT 12 5) HT_ ?_
  refine pf 5 (some 12) (bT 12 6) HT_ ?_
  refine pf 6 (some 13) (bT 12 7) HT_ ?_
  refine pf 7 (some 14) (bT 12 8) HT_ ?_
  refine pf 8 (some 15) (bT 12 9) HT_ ?_
  refine pf 9 (some 16) (bT 12 10) HT_ ?_
  refine pu 10 (some 17) (bT 12 11) HT_ ?_
  refine pu 11 (some 6) (bT 12 12) HT_ ?_
  refine done_ (done_of HT_.out (by kernel_rfl)) ?_
  try go_wp2
  go_ret
  exact er (bbw2 HB GE820 GE821)
def impl_CloseGroup.suit (k : Nat) (a0 a b c : Int) (x : S48) : Option Bool := impl_isSuitable.f k a0 a b c x.f0.f0 x.f0.f1 x.f0.f2 x.f0.f3 x.f1.f0 x.f1.f1
def impl_CloseGroup.f (k : Nat) (a0 a1_0 a1_1 a1_2 : Int) (l2 : List S48) : Option (List S48 × Int) :=
 (impl_frameCode.f a0 a1_0 a1_1 a1_2).bind fun t => if t = 0 then (if 8 < (l2.length : Int) then some ([], 2) else if (l2.all fun x => (impl_CloseGroup.suit k a0 a1_0 a1_1 a1_2 x).isSome) = true then (if (l2.any fun x => !((impl_CloseGroup.suit k a0 a1_0 a1_1 a1_2 x).getD false)) = true then some ([], 2) else (impl_closeGroup.f k a1_0 a1_1 a1_2 l2).bind fun r => some (r, 0)) else none) else some ([], t)
set_option maxHeartbeats 1000000 in
theorem impl_CloseGroup.pred (k : Nat) (a0 a b c : Int) (F L : Nat) (W : World) (hf : W.cell? ⟨F, 0, none⟩ = some (.int .i64 a0)) (hl0 : W.cell? ⟨L, 0, none⟩ = some (.int .i64 a)) (hl1 : W.cell? ⟨L, 1, none⟩ = some (.int .i64 b)) (hl2 : W.cell? ⟨L, 2, none⟩ = some (.int .i64 c)) (x : S48) (r : Bool) (h : impl_CloseGroup.suit k a0 a b c x = some r) :
  Calls Tryz.prog 35 (#[.agg #[.int .i64 x.f0.f0, .int .i64 x.f0.f1, .int .i64 x.f0.f2, .int .i64 x.f0.f3, .int .i64 x.f1.f0, .int .i64 x.f1.f1]] ++ #[.pointer (some ⟨F, 0, none⟩), .pointer (some ⟨L, 0, none⟩)]) W fun e w' => e = .returned (.bool (!r)) ∧ Below W.heap.size W w' := by
 show Calls Tryz.prog 35 #[.agg #[.int .i64 x.f0.f0, .int .i64 x.f0.f1, .int .i64 x.f0.f2, .int .i64 x.f0.f3, .int .i64 x.f1.f0, .int .i64 x.f1.f1], .pointer (some ⟨F, 0, none⟩), .pointer (some ⟨L, 0, none⟩)] W _
 have hu33 := Tryz.underlying48
 have hu34 := Tryz.underlying46
 have hu35 := Tryz.underlying38
 have hu31 := Tryz.underlying29
 have b1 : Below W.heap.size W (W.alloc (.cells #[.int .i64 x.f0.f0, .int .i64 x.f0.f1, .int .i64 x.f0.f2, .int .i64 x.f0.f3, .int .i64 x.f1.f0, .int .i64 x.f1.f1] 48)) := below_alloc (Below.refl _ W) _
 have hcon := impl_isSuitable.calls k a0 a b c x.f0.f0 x.f0.f1 x.f0.f2 x.f0.f3 x.f1.f0 x.f1.f1 r (W.alloc (.cells #[.int .i64 x.f0.f0, .int .i64 x.f0.f1, .int .i64 x.f0.f2, .int .i64 x.f0.f3, .int .i64 x.f1.f0, .int .i64 x.f1.f1] 48)) h
 have up : ∀ (p : Addr) (v : Value), W.cell? p = some v → (W.alloc (.cells #[.int .i64 x.f0.f0, .int .i64 x.f0.f1, .int .i64 x.f0.f2, .int .i64 x.f0.f3, .int .i64 x.f1.f0, .int .i64 x.f1.f1] 48)).cell? p = some v := fun p v hv => (b1.cell (World.block_lt_of_cell? W _ hv)).trans hv
 have gf := up _ _ hf
 have g0 := up _ _ hl0
 have g1 := up _ _ hl1
 have g2 := up _ _ hl2
 have B1 := Aside0.mk b1
 clear hf hl0 hl1 hl2 up b1 h
 go_enter Tryz.func35, Tryz.ntmps35
 go_wp2_with (go_at_call 36; refine hcon.mono ?_; rintro e w' ⟨rfl, hb'⟩)
 go_ret
 exact ⟨rfl, below_then B1.out B1.out.size hb'⟩
theorem impl_CloseGroup.preds (k : Nat) (a0 a b c : Int) (l : List S48) (hs : (l.all fun x => (impl_CloseGroup.suit k a0 a b c x).isSome) = true) (w w1 : World) (hb : Below ((w.alloc (.cells #[.int .i64 a0] 2)).alloc (.cells #[.int .i64 a, .int .i64 b, .int .i64 c] 29)).heap.size ((w.alloc (.cells #[.int .i64 a0] 2)).alloc (.cells #[.int .i64 a, .int .i64 b, .int .i64 c] 29)) w1) :
  ∀ x ∈ l, ∀ W : World, Below w1.heap.size w1 W → Calls Tryz.prog 35 (#[.agg #[.int .i64 x.f0.f0, .int .i64 x.f0.f1, .int .i64 x.f0.f2, .int .i64 x.f0.f3, .int .i64 x.f1.f0, .int .i64 x.f1.f1]] ++ #[.pointer (some ⟨w.heap.size, 0, none⟩), .pointer (some ⟨w.heap.size + 1, 0, none⟩)]) W fun e w' => e = .returned (.bool (!((impl_CloseGroup.suit k a0 a b c x).getD false))) ∧ Below w1.heap.size w1 w' := by
 intro x hx W hW
 have up : ∀ (p : Addr) (v : Value), ((w.alloc (.cells #[.int .i64 a0] 2)).alloc (.cells #[.int .i64 a, .int .i64 b, .int .i64 c] 29)).cell? p = some v → W.cell? p = some v := fun p v hv => by
  have h1 := hbc hb hv
  exact (hW.cell (World.block_lt_of_cell? w1 _ h1)).trans h1
 obtain ⟨r, hr⟩ := Option.isSome_iff_exists.1 (List.all_eq_true.1 hs x hx)
 rw [hr, Option.getD_some]
 exact (impl_CloseGroup.pred k a0 a b c w.heap.size (w.heap.size + 1) W (up _ _ (by simp)) (up _ _ (by simp)) (up _ _ (by simp)) (up _ _ (by simp)) x r hr).mono fun e w' ⟨he, hb'⟩ => ⟨he, below_then hW hW.size hb'⟩
set_option maxHeartbeats 4000000 in
theorem impl_CloseGroup.calls (k : Nat) (a0 : Int) (a1_0 : Int) (a1_1 : Int) (a1_2 : Int) (A2 : Option Addr) (c2 : Nat) (l2 : List S48) (r1 : List S48) (r2 : Int) (w : World) (hr2 : Kd.C k48 w A2 l2.length l2) (hc2 : l2.length ≤ c2) (h : impl_CloseGroup.f k a0 a1_0 a1_1 a1_2 l2 = some (r1, r2)) :
  Calls Tryz.prog 12 #[.int .i64 a0, .agg #[.int .i64 a1_0, .int .i64 a1_1, .int .i64 a1_2], .slice A2 l2.length c2] w fun e w' => ∃ v0_ : Value, e = .returned (.tuple #[v0_, .int .i64 r2]) ∧ Kd.R k48 48 w' w.heap.size (fun _ => True) v0_ r1 ∧ Below w.heap.size w w' := by
 have hu31 := Tryz.underlying29
 have HR := Aside0.mk hr2
 have HC := Aside0.mk hc2
 clear hr2 hc2
 have b1 : Below w.heap.size w ((w.alloc (.cells #[.int .i64 a0] 2)).alloc (.cells #[.int .i64 a1_0, .int .i64 a1_1, .int .i64 a1_2] 29)) := below_alloc (below_alloc (Below.refl _ w) _) _
 have B1 := Aside0.mk b1
 clear b1
 unfold impl_CloseGroup.f at h
 obtain ⟨t, A, H⟩ := Option.bind_eq_some_iff.1 h
 have AC := Aside0.mk A
 clear h A
 by_cases ht : t = 0
 ·rw [if_pos ht] at H
  subst ht
  by_cases hl : 8 < (l2.length : Int)
  ·rw [if_pos hl] at H
   have hlb0 : decide (8 < (l2.length : Int)) = true := decide_eq_true hl
   have hlb1 : decide (8 < l2.length) = true := decide_eq_true (by omega)
   clear hl
   simp only [Option.some.injEq, Prod.mk.injEq] at H
   obtain ⟨rfl, rfl⟩ := H
   go_enter Tryz.func12, Tryz.ntmps12
   go_wp2_with (go_at_call 33; (with_reducible refine (impl_frameCode.calls _ _ _ _ _ _ AC.out).mono ?_); rintro e w1 ⟨rfl, hb1⟩; have HB1 := Aside0.mk hb1; clear hb1)
   go_ret2
   exact ⟨_, rfl, Kd.R_nil _ _ _ _ _, below_then B1.out B1.out.size HB1.out⟩
  ·rw [if_neg hl] at H
   have hlb0 : decide (8 < (l2.length : Int)) = false := decide_eq_false hl
   have hlb1 : decide (8 < l2.length) = false := decide_eq_false (by omega)
   clear hl
   by_cases hs : (l2.all fun x => (impl_CloseGroup.suit k a0 a1_0 a1_1 a1_2 x).isSome) = true
   ·rw [if_pos hs] at H
    have eg : ∀ args w, (callFunc 35 args).run Tryz.prog w = .ok (.enter 35 args) w := enters_of Tryz.func35 (by kernel_rfl) rfl
    have HP := asd (fun (w1 : World) hb => impl_Motion_34.calls (fun x => !((impl_CloseGroup.suit k a0 a1_0 a1_1 a1_2 x).getD false)) 35 #[.pointer (some ⟨w.heap.size, 0, none⟩), .pointer (some ⟨w.heap.size + 1, 0, none⟩)] eg A2 c2 l2 w1 (Kd.C_below (Kd.C_below HR.out B1.out) hb) (impl_CloseGroup.preds k a0 a1_0 a1_1 a1_2 l2 hs w w1 hb))
    clear hs eg
    generalize (l2.any fun x => !((impl_CloseGroup.suit k a0 a1_0 a1_1 a1_2 x).getD false)) = q at H HP
    cases q with
    | true =>
     rw [if_pos rfl] at H
     simp only [Option.some.injEq, Prod.mk.injEq] at H
     obtain ⟨rfl, rfl⟩ := H
     go_enter Tryz.func12, Tryz.ntmps12
     go_wp2_with (first | (go_at_call 33; (with_reducible refine (impl_frameCode.calls _ _ _ _ _ _ AC.out).mono ?_); rintro e w1 ⟨rfl, hb1⟩; have HQ := HP.out w1 hb1; have HB1 := Aside0.mk hb1; clear hb1) | (go_at_call 34; refine HQ.mono ?_; rintro e w2 ⟨rfl, hb2⟩; have HB2 := Aside0.mk hb2; clear hb2))
     go_ret2
     exact ⟨_, rfl, Kd.R_nil _ _ _ _ _, below_then (below_then B1.out B1.out.size HB1.out) (below_then B1.out B1.out.size HB1.out).size HB2.out⟩
    | false =>
     rw [if_neg Bool.false_ne_true] at H
     obtain ⟨o, A5, H⟩ := Option.bind_eq_some_iff.1 H
     simp only [Option.some.injEq, Prod.mk.injEq] at H
     obtain ⟨rfl, rfl⟩ := H
     have A6 := Aside0.mk A5
     clear A5
     have up : ∀ (w1 w2 : World), Below ((w.alloc (.cells #[.int .i64 a0] 2)).alloc (.cells #[.int .i64 a1_0, .int .i64 a1_1, .int .i64 a1_2] 29)).heap.size ((w.alloc (.cells #[.int .i64 a0] 2)).alloc (.cells #[.int .i64 a1_0, .int .i64 a1_1, .int .i64 a1_2] 29)) w1 → Below w1.heap.size w1 w2 → w2.cell? ⟨w.heap.size + 1, 0, none⟩ = some (.int .i64 a1_0) ∧ w2.cell? ⟨w.heap.size + 1, 1, none⟩ = some (.int .i64 a1_1) ∧ w2.cell? ⟨w.heap.size + 1, 2, none⟩ = some (.int .i64 a1_2) := fun w1 w2 h1 h2 => by
      have go : ∀ (p : Addr) (v : Value), ((w.alloc (.cells #[.int .i64 a0] 2)).alloc (.cells #[.int .i64 a1_0, .int .i64 a1_1, .int .i64 a1_2] 29)).cell? p = some v → w2.cell? p = some v := fun p v hv => by
       have e1 := (h1.cell (World.block_lt_of_cell? _ _ hv)).trans hv
       exact (h2.cell (World.block_lt_of_cell? w1 _ e1)).trans e1
      exact ⟨go _ _ (by simp), go _ _ (by simp), go _ _ (by simp)⟩
     have UP := Aside0.mk up
     clear up
     go_enter Tryz.func12, Tryz.ntmps12
     go_wp2_with (first | (go_at_call 33; (with_reducible refine (impl_frameCode.calls _ _ _ _ _ _ AC.out).mono ?_); rintro e w1 ⟨rfl, hb1⟩; have HQ := HP.out w1 hb1; have HB1 := Aside0.mk hb1; clear hb1) | (go_at_call 34; refine HQ.mono ?_; rintro e w2 ⟨rfl, hb2⟩; obtain ⟨hz0, hz1, hz2⟩ := UP.out _ _ HB1.out hb2; have HB2 := asd (below_then (below_then B1.out B1.out.size HB1.out) (below_then B1.out B1.out.size HB1.out).size hb2); clear hb2 HQ) | (go_at_call 37; (with_reducible refine (impl_closeGroup.calls _ _ _ _ _ _ _ _ _ ?side1 ?side2 A6.out).mono ?_); (case side1 => exact Kd.C_below HR.out HB2.out); (case side2 => exact HC.out); rintro e w3 ⟨v0, rfl, ho, hb3⟩; have HO := Aside0.mk ho; have HB3 := Aside0.mk hb3; clear ho hb3))
     go_ret2
     exact ⟨_, rfl, Kd.R_lower HO.out HB2.out.size, below_then HB2.out HB2.out.size HB3.out⟩
   ·rw [if_neg hs] at H; cases H
 ·rw [if_neg ht] at H
  have htb0 : (t == 0) = false := beq_eq_false_iff_ne.mpr ht
  have htb1 : (t != 0) = true := bne_iff_ne.mpr ht
  clear ht
  simp only [Option.some.injEq, Prod.mk.injEq] at H
  obtain ⟨rfl, rfl⟩ := H
  go_enter Tryz.func12, Tryz.ntmps12
  go_wp2_with (go_at_call 33; (with_reducible refine (impl_frameCode.calls _ _ _ _ _ _ AC.out).mono ?_); rintro e w1 ⟨rfl, hb1⟩; have HB1 := Aside0.mk hb1; clear hb1)
  go_ret2
  exact ⟨_, rfl, Kd.R_nil _ _ _ _ _, below_then B1.out B1.out.size HB1.out⟩
mutual
def laws_FnExactCloseGroup.j0 : Nat → Int → List (S44) → List (S48) → Int → List (S48) → List (S48) → Int → Bool → Int → Int → Int → Option (Bool)
 | 0, _, _, _, _, _, _, _, _, _, _, _ => none
 | k + 1, x0, x2, x8, x9, x10, x11, x12, x50, x828000, x828001, x828002 => if x50 = true then (some false) else ((laws_toMotionS.f k x2).bind fun t850 => ((laws_eqMotionS.f k x10 t850).bind fun t853 => (if t853 = true then ((laws_markMotionS.f k x10 1).bind fun bt854 => (if bt854.1 < 0 then (laws_FnExactCloseGroup.j1 k x0 x2 x8 x9 x11 true x828000 x828001 x828002) else ((laws_eqMotionS.f k x11 x8).bind fun t856 => (if t856 = true then (laws_FnExactCloseGroup.j1 k x0 x2 x8 x9 x11 (x12 != x9) x828000 x828001 x828002) else (laws_FnExactCloseGroup.j1 k x0 x2 x8 x9 x11 true x828000 x828001 x828002))))) else (some false))))
def laws_FnExactCloseGroup.j1 : Nat → Int → List (S44) → List (S48) → Int → List (S48) → Bool → Int → Int → Int → Option (Bool)
 | 0, _, _, _, _, _, _, _, _, _ => none
 | k + 1, x0, x2, x8, x9, x11, x71, x828000, x828001, x828002 => if x71 = true then (some false) else ((laws_markMotionS.f k x11 1).bind fun bt857 => ((laws_heldMotionS.f k bt857.2 1).bind fun t859 => (if t859 < 0 then (some false) else (if t859 = bt857.1 then ((laws_toLattice.f x828000 x828001 x828002).bind fun bt860 => ((laws_toMotionS.f k x2).bind fun t863 => ((impl_CloseGroup.f k x0 bt860.1 bt860.2.1 bt860.2.2 t863).bind fun bt866 => ((laws_eqMotionS.f k bt866.1 x8).bind fun t870 => (if t870 = true then (laws_FnExactCloseGroup.j2 k bt857.2 bt857.1 (bt866.2 != x9)) else (laws_FnExactCloseGroup.j2 k bt857.2 bt857.1 true)))))) else (some false)))))
def laws_FnExactCloseGroup.j2 : Nat → List (S48) → Int → Bool → Option (Bool)
 | 0, _, _, _ => none
 | k + 1, x11, x14, x100 => if x100 = true then (some false) else ((laws_heldMotionS.f k x11 1).bind fun t871 => (if t871 < 0 then (some false) else (if t871 = x14 then (some true) else (some false))))
end
def laws_FnExactCloseGroup.f (k : Nat) (a0 : Int) (a1_0 : Int) (a1_1 : Int) (a1_2 : Int) (l2 : List (S44)) : Option (Bool) := (laws_szMotionS.f l2 1048576).bind fun t828 => (if t828 < 0 then (some true) else ((laws_toLattice.f a1_0 a1_1 a1_2).bind fun bt829 => ((laws_toMotionS.f k l2).bind fun t832 => ((spec_CloseGroup.f k a0 bt829.1 bt829.2.1 bt829.2.2 t832).bind fun bt835 => ((laws_toMotionS.f k l2).bind fun t839 => ((laws_toLattice.f a1_0 a1_1 a1_2).bind fun bt842 => ((impl_CloseGroup.f k a0 bt842.1 bt842.2.1 bt842.2.2 t839).bind fun bt845 => ((laws_eqMotionS.f k bt845.1 bt835.1).bind fun t849 => (if t849 = true then (laws_FnExactCloseGroup.j0 k a0 l2 bt835.1 bt835.2 t839 bt845.1 bt845.2 (bt845.2 != bt835.2) a1_0 a1_1 a1_2) else (laws_FnExactCloseGroup.j0 k a0 l2 bt835.1 bt835.2 t839 bt845.1 bt845.2 true a1_0 a1_1 a1_2))))))))))
theorem laws_FnExactCloseGroup.calls (k : Nat) (a0 : Int) (a1_0 : Int) (a1_1 : Int) (a1_2 : Int) (A2 : Option Addr) (c2 : Nat) (l2 : List (S44)) (w : World) (hr2 : Kd.C k44 w A2 l2.length l2) (hc2 : l2.length ≤ c2) (h : laws_FnExactCloseGroup.f k a0 a1_0 a1_1 a1_2 l2 = some true) :
  Calls Tryz.prog 3 #[.int .i64 a0, .agg #[.int .i64 a1_0, .int .i64 a1_1, .int .i64 a1_2], .slice A2 l2.length c2] w fun e w' => e = .returned (.bool true) ∧ Below w.heap.size w w' := by
 have hu23 := Tryz.underlying23
 have HR2 := Aside0.mk hr2
 have HC2 := Aside0.mk hc2
 clear hr2 hc2
 have HB := asd (Below.refl w.heap.size w)
 have H : ((laws_szMotionS.f l2 1048576).bind fun t828 => (if t828 < 0 then (some true) else ((laws_toLattice.f a1_0 a1_1 a1_2).bind fun bt829 => ((laws_toMotionS.f k l2).bind fun t832 => ((spec_CloseGroup.f k a0 bt829.1 bt829.2.1 bt829.2.2 t832).bind fun bt835 => ((laws_toMotionS.f k l2).bind fun t839 => ((laws_toLattice.f a1_0 a1_1 a1_2).bind fun bt842 => ((impl_CloseGroup.f k a0 bt842.1 bt842.2.1 bt842.2.2 t839).bind fun bt845 => ((laws_eqMotionS.f k bt845.1 bt835.1).bind fun t849 => (if t849 = true then (laws_FnExactCloseGroup.j0 k a0 l2 bt835.1 bt835.2 t839 bt845.1 bt845.2 (bt845.2 != bt835.2) a1_0 a1_1 a1_2) else (laws_FnExactCloseGroup.j0 k a0 l2 bt835.1 bt835.2 t839 bt845.1 bt845.2 true a1_0 a1_1 a1_2))))))))))) = some true := h
 clear h
 obtain ⟨t828, A4, H⟩ := ob H
 try dsimp only at H
 by_cases c5 : t828 < 0
 ·rw [if_pos c5] at H
  have c5b0 := decide_eq_true c5
  clear c5
  clear H
  go_enter Tryz.func3, Tryz.ntmps3
  go_wp2_with (first | ((with_reducible refine gd 4 rfl ?_); refine bx #[.int .i64 a1_0, .int .i64 a1_1, .int .i64 a1_2] 23 ?_; intro gb827 hg w6 BK827 hb; have GE827 := ngw0 hg HB; replace HB := bS0 HB hb; clear hb hg) | ((with_reducible refine gate_callee (f := 8) rfl ?_); refine gl 20 Tryz.func8 #[.slice A2 l2.length c2, .int .i64 1048576] ?_; (with_reducible refine (laws_szMotionS.calls _ _ _ _ _ _ ?side1 ?side2 A4.out).mono ?_); (case side1 => exact ks (Kd.C_below HR2.out HB.out)); (case side2 => exact HC2.out); rintro e w' ⟨rfl, ⟨nd, rfl⟩⟩; refine ⟨_, rfl, ?_⟩))
  go_ret
  exact er (bbw1 HB GE827)
 ·rw [if_neg c5] at H
  have c5b0 := decide_eq_false c5
  clear c5
  obtain ⟨⟨t829, t830, t831⟩, A7, H⟩ := ob H
  try dsimp only at H
  obtain ⟨t832, A8, H⟩ := ob H
  try dsimp only at H
  obtain ⟨⟨t835, t838⟩, A9, H⟩ := ob H
  try dsimp only at H
  obtain ⟨t839, A10, H⟩ := ob H
  try dsimp only at H
  obtain ⟨⟨t842, t843, t844⟩, A11, H⟩ := ob H
  try dsimp only at H
  obtain ⟨⟨t845, t848⟩, A12, H⟩ := ob H
  try dsimp only at H
  have HC13 := Aside0.mk H
  clear H
  go_enter Tryz.func3, Tryz.ntmps3
  go_upto_region 8 with (first | ((with_reducible refine gd 4 rfl ?_); refine bx #[.int .i64 a1_0, .int .i64 a1_1, .int .i64 a1_2] 23 ?_; intro gb827 hg w14 BK827 hb; have GE827 := ngw0 hg HB; replace HB := bS0 HB hb; clear hb hg) | ((with_reducible refine gate_callee (f := 8) rfl ?_); refine gl 20 Tryz.func8 #[.slice A2 l2.length c2, .int .i64 1048576] ?_; (with_reducible refine (laws_szMotionS.calls _ _ _ _ _ _ ?side1 ?side2 A4.out).mono ?_); (case side1 => exact ks (Kd.C_below HR2.out HB.out)); (case side2 => exact HC2.out); rintro e w' ⟨rfl, ⟨nd, rfl⟩⟩; refine ⟨_, rfl, ?_⟩; have hcz15_0 : w14.cell? ⟨gb827, 0, none⟩ = some (.int .i64 a1_0) := bcl BK827 0; have hcz15_1 : w14.cell? ⟨gb827, 1, none⟩ = some (.int .i64 a1_1) := bcl BK827 1; have hcz15_2 : w14.cell? ⟨gb827, 2, none⟩ = some (.int .i64 a1_2) := bcl BK827 2; have hfz15_0 := blk_frozen BK827.out 0; have hfz15_1 := blk_frozen BK827.out 1; have hfz15_2 := blk_frozen BK827.out 2) | ((with_reducible refine gate_callee (f := 10) rfl ?_); refine gl 26 Tryz.func10 #[.agg #[.int .i64 a1_0, .int .i64 a1_1, .int .i64 a1_2]] ?_; (with_reducible refine (laws_toLattice.calls _ _ _ _ _ _ _ A7.out).mono ?_); rintro e w16 ⟨rfl, hb⟩; refine ⟨_, rfl, ?_⟩; replace BK827 := bB BK827 hb; replace HB := bS1 HB GE827 hb; (try clear hb)) | ((with_reducible refine gate_callee (f := 11) rfl ?_); refine gl 28 Tryz.func11 #[.slice A2 l2.length c2] ?_; (with_reducible refine (laws_toMotionS.calls _ _ _ _ _ _ ?side1 ?side2 A8.out).mono ?_); (case side1 => exact ks (Kd.C_below HR2.out HB.out)); (case side2 => exact HC2.out); rintro e w17 ⟨v833, rfl, ho0, hb⟩; refine ⟨_, rfl, ?_⟩; have HO834 := asd (Kd.R_lower ho0 (bsz1 HB GE827)); replace BK827 := bB BK827 hb; replace HB := bS1 HB GE827 hb; (try clear hb); (try clear hb2); (try clear hk); (try clear hi); (try clear ho0); obtain ⟨Ao18, co18, eo18⟩ := Kd.R_slice HO834.out; subst eo18) | ((with_reducible refine gate_callee (f := 9) rfl ?_); refine gl 29 Tryz.func9 #[.int .i64 a0, .agg #[.int .i64 t829, .int .i64 t830, .int .i64 t831], .slice Ao18 t832.length co18] ?_; (with_reducible refine (spec_CloseGroup.calls _ _ _ _ _ _ _ _ _ _ _ ?side1 ?side2 A9.out).mono ?_); (case side1 => exact ks (Kd.R_reads' HO834.out).2.2); (case side2 => exact (Kd.R_reads' HO834.out).2.1); rintro e w19 ⟨v836, rfl, ho0, hb⟩; refine ⟨_, rfl, ?_⟩; have HO837 := asd (Kd.R_lower (Kd.R_new' ho0 (Kd.R_lt (kr HO834))) (bsz1 HB GE827)); replace HO834 := asd (Kd.R_elder' (kr HO834) (Kd.R_base ho0) hb); replace BK827 := bB BK827 hb; replace HB := bS1 HB GE827 hb; (try clear hb); (try clear hb2); (try clear hk); (try clear hi); (try clear ho0)) | ((with_reducible refine gate_callee (f := 11) rfl ?_); refine gl 33 Tryz.func11 #[.slice A2 l2.length c2] ?_; (with_reducible refine (laws_toMotionS.calls _ _ _ _ _ _ ?side1 ?side2 A10.out).mono ?_); (case side1 => exact ks (Kd.C_below HR2.out HB.out)); (case side2 => exact HC2.out); rintro e w20 ⟨v840, rfl, ho0, hb⟩; refine ⟨_, rfl, ?_⟩; have HO841 := asd (Kd.R_lower (Kd.R_new' (Kd.R_new' ho0 (Kd.R_lt (kr HO834))) (Kd.R_lt (kr HO837))) (bsz1 HB GE827)); replace HO834 := asd (Kd.R_elder' (kr HO834) (Kd.R_base ho0) hb); replace HO837 := asd (Kd.R_elder' (kr HO837) (Kd.R_base ho0) hb); replace BK827 := bB BK827 hb; replace HB := bS1 HB GE827 hb; (try clear hb); (try clear hb2); (try clear hk); (try clear hi); (try clear ho0); obtain ⟨hcz21_0, hcz21_1, hcz21_2, hfz21_0, hfz21_1, hfz21_2⟩ := bz3 BK827) | ((with_reducible refine gate_callee (f := 10) rfl ?_); refine gl 37 Tryz.func10 #[.agg #[.int .i64 a1_0, .int .i64 a1_1, .int .i64 a1_2]] ?_; (with_reducible refine (laws_toLattice.calls _ _ _ _ _ _ _ A11.out).mono ?_); rintro e w22 ⟨rfl, hb⟩; refine ⟨_, rfl, ?_⟩; replace HO834 := asd (Kd.R_below (kr HO834) hb); replace HO837 := asd (Kd.R_below (kr HO837) hb); replace HO841 := asd (Kd.R_below (kr HO841) hb); replace BK827 := bB BK827 hb; replace HB := bS1 HB GE827 hb; (try clear hb); obtain ⟨Ao23, co23, eo23⟩ := Kd.R_slice HO841.out; subst eo23) | ((with_reducible refine gate_callee (f := 12) rfl ?_); refine gl 39 Tryz.func12 #[.int .i64 a0, .agg #[.int .i64 t842, .int .i64 t843, .int .i64 t844], .slice Ao23 t839.length co23] ?_; (with_reducible refine (impl_CloseGroup.calls _ _ _ _ _ _ _ _ _ _ _ ?side1 ?side2 A12.out).mono ?_); (case side1 => exact ks (Kd.R_reads' HO841.out).2.2); (case side2 => exact (Kd.R_reads' HO841.out).2.1); rintro e w24 ⟨v846, rfl, ho0, hb⟩; refine ⟨_, rfl, ?_⟩; have HO847 := asd (Kd.R_lower (Kd.R_new' (Kd.R_new' (Kd.R_new' ho0 (Kd.R_lt (kr HO834))) (Kd.R_lt (kr HO837))) (Kd.R_lt (kr HO841))) (bsz1 HB GE827)); replace HO834 := asd (Kd.R_elder' (kr HO834) (Kd.R_base ho0) hb); replace HO837 := asd (Kd.R_elder' (kr HO837) (Kd.R_base ho0) hb); replace HO841 := asd (Kd.R_elder' (kr HO841) (Kd.R_base ho0) hb); replace BK827 := bB BK827 hb; replace HB := bS1 HB GE827 hb; (try clear hb); (try clear hb2); (try clear hk); (try clear hi); (try clear ho0)))
  (try simp only [Act.put, sA, sB, sC])
  go_cut [50] (fun v50 wc => ∃ (kq : Nat) (x50_12 : Bool), v50 = .bool x50_12 ∧ Aside0 (laws_FnExactCloseGroup.j0 kq a0 l2 t835 t838 t839 t845 t848 x50_12 a1_0 a1_1 a1_2 = some true) ∧ Aside0 (kq ≤ k) ∧ Aside0 (Kd.R k48 48 wc w.heap.size (fun k_ => some k_ ≠ ((.slice Ao23 t839.length co23) : Value).ownBlock ∧ some k_ ≠ (v846 : Value).ownBlock) v836 t835) ∧ Aside0 (Kd.R k48 48 wc w.heap.size (fun k_ => some k_ ≠ (v836 : Value).ownBlock ∧ some k_ ≠ (v846 : Value).ownBlock) (.slice Ao23 t839.length co23) t839) ∧ Aside0 (Kd.R k48 48 wc w.heap.size (fun k_ => some k_ ≠ (v836 : Value).ownBlock ∧ some k_ ≠ ((.slice Ao23 t839.length co23) : Value).ownBlock) v846 t845) ∧ Aside0 (wc.heap[gb827]? = some (.cells #[.int .i64 a1_0, .int .i64 a1_1, .int .i64 a1_2] 23 (0, 0))) ∧ Aside0 (Below w.heap.size w wc))
  case first =>
   have H := HC13.out
   clear HC13
   obtain ⟨t849, A25, H⟩ := ob H
   try dsimp only at H
   by_cases c26 : t849 = true
   subst c26
   replace H := ifT H
   have H' := Aside0.mk H
   clear H
   rotate_left
   replace c26 := Bool.eq_false_iff.mpr c26
   subst c26
   replace H := ifF H
   have H' := Aside0.mk H
   clear H
   rotate_left
   all_goals
    obtain ⟨Ao27, co27, eo27⟩ := Kd.R_slice HO847.out
    subst eo27
    obtain ⟨Ao28, co28, eo28⟩ := Kd.R_slice HO837.out
    subst eo28
    go_wp2_with (first | ((with_reducible refine gate_callee (f := 13) rfl ?_); refine gl 44 Tryz.func13 #[.slice Ao27 t845.length co27, .slice Ao28 t835.length co28] ?_; (with_reducible refine (laws_eqMotionS.calls _ _ _ _ _ _ _ _ _ ?side1 ?side2 ?side3 ?side4 A25.out).mono ?_); (case side1 => exact ks (Kd.R_reads' HO847.out).2.2); (case side2 => exact (Kd.R_reads' HO847.out).2.1); (case side3 => exact ks (Kd.R_reads' HO837.out).2.2); (case side4 => exact (Kd.R_reads' HO837.out).2.1); rintro e w29 ⟨rfl, hb⟩; refine ⟨_, rfl, ?_⟩; replace HO834 := asd (Kd.R_below (kr HO834) hb); replace HO837 := asd (Kd.R_below (kr HO837) hb); replace HO841 := asd (Kd.R_below (kr HO841) hb); replace HO847 := asd (Kd.R_below (kr HO847) hb); replace BK827 := bB BK827 hb; replace HB := bS1 HB GE827 hb; (try clear hb)))
    go_meet
   ·case rel => exact ⟨_, ((t848 != t838)), (by first | rfl | (simp; done) | (simp [*]; done)), H', ⟨by first | omega | exact Nat.le_refl _⟩, ⟨by (with_reducible repeat (first | apply Kd.R_alloc | apply Kd.R_drewN | apply Kd.R_drew)); exact Kd.R_mono HO837.out (fun _ hk => ⟨hk.1.2, hk.2⟩)⟩, ⟨by (with_reducible repeat (first | apply Kd.R_alloc | apply Kd.R_drewN | apply Kd.R_drew)); exact Kd.R_mono HO841.out (fun _ hk => ⟨hk.1.2, hk.2⟩)⟩, ⟨by (with_reducible repeat (first | apply Kd.R_alloc | apply Kd.R_drewN | apply Kd.R_drew)); exact Kd.R_mono HO847.out (fun _ hk => ⟨hk.1.2, hk.2⟩)⟩, ⟨bkp BK827⟩, ⟨bbw1 HB GE827⟩⟩
   ·case rel => exact ⟨_, (true), (by first | rfl | (simp; done) | (simp [*]; done)), H', ⟨by first | omega | exact Nat.le_refl _⟩, ⟨by (with_reducible repeat (first | apply Kd.R_alloc | apply Kd.R_drewN | apply Kd.R_drew)); exact Kd.R_mono HO837.out (fun _ hk => ⟨hk.1.2, hk.2⟩)⟩, ⟨by (with_reducible repeat (first | apply Kd.R_alloc | apply Kd.R_drewN | apply Kd.R_drew)); exact Kd.R_mono HO841.out (fun _ hk => ⟨hk.1.2, hk.2⟩)⟩, ⟨by (with_reducible repeat (first | apply Kd.R_alloc | apply Kd.R_drewN | apply Kd.R_drew)); exact Kd.R_mono HO847.out (fun _ hk => ⟨hk.1.2, hk.2⟩)⟩, ⟨bkp BK827⟩, ⟨bbw1 HB GE827⟩⟩
  case rest =>
   clear HC13
   try clear c1
   try clear c2
   try clear p2
   try clear c3
   try clear c5
   try clear c5b0
   try clear c8
   try clear c9
   try clear c10
   try clear c11
   try clear c12
   try clear c13
   try clear c26
   try clear hcz15_0
   try clear hcz15_1
   try clear hcz15_2
   try clear hcz21_0
   try clear hcz21_1
   try clear hcz21_2
   try clear hfz15_0
   try clear hfz15_1
   try clear hfz15_2
   try clear hfz21_0
   try clear hfz21_1
   try clear hfz21_2
   obtain ⟨kq, x50_12, rfl, HA, HJ12, HO_8, HO_10, HO_11, BK827, HB⟩ := hcut
   cases kq with
   | zero => exact absurd HA.out (by simp [laws_FnExactCloseGroup.j0])
   | succ kj12 =>
    have H := HA.out
    clear HA
    simp only [laws_FnExactCloseGroup.j0] at H
    by_cases c33 : x50_12 = true
    ·subst c33
     replace H := ifT H
     exact absurd H (by simp)
    ·replace c33 := Bool.eq_false_iff.mpr c33
     subst c33
     replace H := ifF H
     obtain ⟨t850, A34, H⟩ := ob H
     try dsimp only at H
     obtain ⟨t853, A35, H⟩ := ob H
     try dsimp only at H
     by_cases c36 : t853 = true
     ·subst c36
      replace H := ifT H
      obtain ⟨⟨t854, t855⟩, A37, H⟩ := ob H
      try dsimp only at H
      have HC38 := Aside0.mk H
      clear H
      go_upto_region 14 with (first | ((with_reducible refine gate_callee (f := 11) rfl ?_); refine gl 53 Tryz.func11 #[.slice A2 l2.length c2] ?_; (with_reducible refine (laws_toMotionS.calls _ _ _ _ _ _ ?side1 ?side2 A34.out).mono ?_); (case side1 => exact ks (Kd.C_below HR2.out HB.out)); (case side2 => exact HC2.out); rintro e w39 ⟨v851, rfl, ho0, hb⟩; refine ⟨_, rfl, ?_⟩; have HO852 := asd (Kd.R_lower (Kd.R_new' (Kd.R_new' (Kd.R_new' ho0 (Kd.R_lt (kr HO_8))) (Kd.R_lt (kr HO_10))) (Kd.R_lt (kr HO_11))) (bsz1 HB GE827)); replace HO_8 := asd (Kd.R_elder' (kr HO_8) (Kd.R_base ho0) hb); replace HO_10 := asd (Kd.R_elder' (kr HO_10) (Kd.R_base ho0) hb); replace HO_11 := asd (Kd.R_elder' (kr HO_11) (Kd.R_base ho0) hb); replace BK827 := bB BK827 hb; replace HB := bS1 HB GE827 hb; (try clear hb); (try clear hb2); (try clear hk); (try clear hi); (try clear ho0); obtain ⟨Ao40, co40, eo40⟩ := Kd.R_slice HO852.out; subst eo40) | ((with_reducible refine gate_callee (f := 13) rfl ?_); refine gl 54 Tryz.func13 #[.slice Ao23 t839.length co23, .slice Ao40 t850.length co40] ?_; (with_reducible refine (laws_eqMotionS.calls _ _ _ _ _ _ _ _ _ ?side1 ?side2 ?side3 ?side4 A35.out).mono ?_); (case side1 => exact ks (Kd.R_reads' HO_10.out).2.2); (case side2 => exact (Kd.R_reads' HO_10.out).2.1); (case side3 => exact ks (Kd.R_reads' HO852.out).2.2); (case side4 => exact (Kd.R_reads' HO852.out).2.1); rintro e w41 ⟨rfl, hb⟩; refine ⟨_, rfl, ?_⟩; replace HO_8 := asd (Kd.R_below (kr HO_8) hb); replace HO_10 := asd (Kd.R_below (kr HO_10) hb); replace HO_11 := asd (Kd.R_below (kr HO_11) hb); replace HO852 := asd (Kd.R_below (kr HO852) hb); replace BK827 := bB BK827 hb; replace HB := bS1 HB GE827 hb; (try clear hb)) | ((with_reducible refine gate_callee (f := 14) rfl ?_); refine gl 58 Tryz.func14 #[.slice Ao23 t839.length co23, .int .i64 1] ?_; (with_reducible refine (laws_markMotionS.calls _ (fun k_ => some k_ = (.slice Ao23 t839.length co23 : Value).ownBlock) _ _ _ _ _ w _ ?side1 ?side2 A37.out).mono ?_); (case side1 => repeat (first | (with_reducible first | exact HB.out | apply below_alloc | apply pw_below_drewN | apply below_drew1 | refine below_set ?_ GE827.out) | exact HB.out)); (case side2 => exact Kd.R_tight rfl HO_10.out); rintro e w42 ⟨rfl, hy0, hb, hkp⟩; refine ⟨_, rfl, ?_⟩; replace HO_8 := asd (Kd.R_mono (ok' := fun k_ => some k_ ≠ (.slice Ao23 t839.length co23 : Value).ownBlock ∧ some k_ ≠ (v846 : Value).ownBlock ∧ some k_ ≠ (.slice Ao40 t850.length co40 : Value).ownBlock) (Kd.R_keptB (HO_8.out) hkp (fun k_ hk_ hs_ => (hk_.1.1) hs_)) (fun k_ hk_ => ⟨hk_.1.1.1, hk_.1.1.2, hk_.1.2⟩)); replace HO_11 := asd (Kd.R_mono (ok' := fun k_ => some k_ ≠ (v836 : Value).ownBlock ∧ some k_ ≠ (.slice Ao23 t839.length co23 : Value).ownBlock ∧ some k_ ≠ (.slice Ao40 t850.length co40 : Value).ownBlock) (Kd.R_keptB (HO_11.out) hkp (fun k_ hk_ hs_ => (hk_.1.2) hs_)) (fun k_ hk_ => ⟨hk_.1.1.1, hk_.1.1.2, hk_.1.2⟩)); replace BK827 := asd (blk_kept (bkp BK827) hkp (fun hs_ => (fun e_ => (Kd.R_ne HO_10.out BK827.out (by decide)) e_) hs_)); replace HO_10 := asd (Kd.R_reok rfl hy0 (fun k_ e_ => HO_10.out.1 k_ e_)); replace HO852 := asd (Kd.R_mono (ok' := fun k_ => some k_ ≠ (v836 : Value).ownBlock ∧ some k_ ≠ (.slice Ao23 t839.length co23 : Value).ownBlock ∧ some k_ ≠ (v846 : Value).ownBlock) (Kd.R_keptB (HO852.out) hkp (fun k_ hk_ hs_ => (hk_.1.2) hs_)) (fun k_ hk_ => ⟨hk_.1.1.1.2, hk_.1.1.2, hk_.1.2⟩)); replace HB := asd (hb); (try clear hb); (try clear hkp); (try clear hy0)))
      (try simp only [Act.put, sA, sB, sC])
      go_cut [71] (fun v71 wc => ∃ (kq : Nat) (x71_37 : Bool), v71 = .bool x71_37 ∧ Aside0 (laws_FnExactCloseGroup.j1 kq a0 l2 t835 t838 t845 x71_37 a1_0 a1_1 a1_2 = some true) ∧ Aside0 (kq ≤ kj12) ∧ Aside0 (Kd.R k48 48 wc w.heap.size (fun k_ => some k_ ≠ (v846 : Value).ownBlock) v836 t835) ∧ Aside0 (Kd.R k48 48 wc w.heap.size (fun k_ => some k_ ≠ (v836 : Value).ownBlock) v846 t845) ∧ Aside0 (wc.heap[gb827]? = some (.cells #[.int .i64 a1_0, .int .i64 a1_1, .int .i64 a1_2] 23 (0, 0))) ∧ Aside0 (Below w.heap.size w wc))
      case first =>
       have H := HC38.out
       clear HC38
       by_cases c43 : t854 < 0
       ·rw [if_pos c43] at H
        have c43b0 := decide_eq_true c43
        clear c43
        (first | rw [c43b0] | (simp only [i64_w, i32_w]; rw [c43b0]) | skip)
        have H' := Aside0.mk H
        clear H
        go_wp2
        go_meet
        case rel => exact ⟨_, (true), (by first | rfl | (simp; done) | (simp [*]; done)), H', ⟨by have := HJ12.out; first | omega | exact Nat.le_refl _⟩, ⟨by (with_reducible repeat (first | apply Kd.R_alloc | apply Kd.R_drewN | apply Kd.R_drew)); exact Kd.R_mono HO_8.out (fun _ hk => hk.2.1)⟩, ⟨by (with_reducible repeat (first | apply Kd.R_alloc | apply Kd.R_drewN | apply Kd.R_drew)); exact Kd.R_mono HO_11.out (fun _ hk => hk.1)⟩, ⟨bkp BK827⟩, ⟨bbw1 HB GE827⟩⟩
       ·rw [if_neg c43] at H
        have c43b0 := decide_eq_false c43
        clear c43
        (first | rw [c43b0] | (simp only [i64_w, i32_w]; rw [c43b0]) | skip)
        obtain ⟨t856, A44, H⟩ := ob H
        try dsimp only at H
        by_cases c45 : t856 = true
        subst c45
        replace H := ifT H
        have H' := Aside0.mk H
        clear H
        rotate_left
        replace c45 := Bool.eq_false_iff.mpr c45
        subst c45
        replace H := ifF H
        have H' := Aside0.mk H
        clear H
        rotate_left
        all_goals
         obtain ⟨Ao46, co46, eo46⟩ := Kd.R_slice HO_11.out
         subst eo46
         obtain ⟨Ao47, co47, eo47⟩ := Kd.R_slice HO_8.out
         subst eo47
         go_wp2_with (first | (go_at_call 13; (with_reducible refine (laws_eqMotionS.calls _ _ _ _ _ _ _ _ _ ?side1 ?side2 ?side3 ?side4 A44.out).mono ?_); (case side1 => exact ks (Kd.R_reads' HO_11.out).2.2); (case side2 => exact (Kd.R_reads' HO_11.out).2.1); (case side3 => exact ks (Kd.R_reads' HO_8.out).2.2); (case side4 => exact (Kd.R_reads' HO_8.out).2.1); rintro e w48 ⟨rfl, hb⟩; replace HO_8 := asd (Kd.R_below (kr HO_8) hb); replace HO_10 := asd (Kd.R_below (kr HO_10) hb); replace HO_11 := asd (Kd.R_below (kr HO_11) hb); replace HO852 := asd (Kd.R_below (kr HO852) hb); replace BK827 := bB BK827 hb; replace HB := bS1 HB GE827 hb; (try clear hb)))
         go_meet
        ·case rel => exact ⟨_, ((t848 != t838)), (by first | rfl | (simp; done) | (simp [*]; done)), H', ⟨by have := HJ12.out; first | omega | exact Nat.le_refl _⟩, ⟨by (with_reducible repeat (first | apply Kd.R_alloc | apply Kd.R_drewN | apply Kd.R_drew)); exact Kd.R_mono HO_8.out (fun _ hk => hk.2.1)⟩, ⟨by (with_reducible repeat (first | apply Kd.R_alloc | apply Kd.R_drewN | apply Kd.R_drew)); exact Kd.R_mono HO_11.out (fun _ hk => hk.1)⟩, ⟨bkp BK827⟩, ⟨bbw1 HB GE827⟩⟩
        ·case rel => exact ⟨_, (true), (by first | rfl | (simp; done) | (simp [*]; done)), H', ⟨by have := HJ12.out; first | omega | exact Nat.le_refl _⟩, ⟨by (with_reducible repeat (first | apply Kd.R_alloc | apply Kd.R_drewN | apply Kd.R_drew)); exact Kd.R_mono HO_8.out (fun _ hk => hk.2.1)⟩, ⟨by (with_reducible repeat (first | apply Kd.R_alloc | apply Kd.R_drewN | apply Kd.R_drew)); exact Kd.R_mono HO_11.out (fun _ hk => hk.1)⟩, ⟨bkp BK827⟩, ⟨bbw1 HB GE827⟩⟩
      case rest =>
       clear HC38
       try clear c1
       try clear c2
       try clear p2
       try clear c3
       try clear c4
       try clear c5
       try clear c5b0
       try clear c8
       try clear c9
       try clear c10
       try clear c11
       try clear c12
       try clear c13
       try clear c14
       try clear c26
       try clear c33
       try clear c36
       try clear c43
       try clear c43b0
       try clear c45
       try clear hcz15_0
       try clear hcz15_1
       try clear hcz15_2
       try clear hcz21_0
       try clear hcz21_1
       try clear hcz21_2
       try clear hfz15_0
       try clear hfz15_1
       try clear hfz15_2
       try clear hfz21_0
       try clear hfz21_1
       try clear hfz21_2
       try clear p2
       obtain ⟨kq, x71_37, rfl, HA, HJ37, HO_8, HO_11, BK827, HB⟩ := hcut
       cases kq with
       | zero => exact absurd HA.out (by simp [laws_FnExactCloseGroup.j1])
       | succ kj37 =>
        have H := HA.out
        clear HA
        simp only [laws_FnExactCloseGroup.j1] at H
        by_cases c52 : x71_37 = true
        ·subst c52
         replace H := ifT H
         exact absurd H (by simp)
        ·replace c52 := Bool.eq_false_iff.mpr c52
         subst c52
         replace H := ifF H
         obtain ⟨⟨t857, t858⟩, A53, H⟩ := ob H
         try dsimp only at H
         obtain ⟨t859, A54, H⟩ := ob H
         try dsimp only at H
         by_cases c55 : t859 < 0
         ·rw [if_pos c55] at H
          have c55b0 := decide_eq_true c55
          clear c55
          exact absurd H (by simp)
         ·rw [if_neg c55] at H
          have c55b0 := decide_eq_false c55
          clear c55
          by_cases c56 : t859 = t857
          ·rw [if_pos c56] at H
           have c56b0 : (t859 == t857) = true := beq_iff_eq.mpr c56
           have c56b1 : (t859 != t857) = false := bne_eq_false_iff_eq.mpr c56
           clear c56
           obtain ⟨⟨t860, t861, t862⟩, A57, H⟩ := ob H
           try dsimp only at H
           obtain ⟨t863, A58, H⟩ := ob H
           try dsimp only at H
           obtain ⟨⟨t866, t869⟩, A59, H⟩ := ob H
           try dsimp only at H
           have HC60 := Aside0.mk H
           clear H
           obtain ⟨Ao61, co61, eo61⟩ := Kd.R_slice HO_11.out
           subst eo61
           go_upto_region 25 with (first | ((with_reducible refine gate_callee (f := 14) rfl ?_); refine gl 74 Tryz.func14 #[.slice Ao61 t845.length co61, .int .i64 1] ?_; (with_reducible refine (laws_markMotionS.calls _ (fun k_ => some k_ = (.slice Ao61 t845.length co61 : Value).ownBlock) _ _ _ _ _ w _ ?side1 ?side2 A53.out).mono ?_); (case side1 => repeat (first | (with_reducible first | exact HB.out | apply below_alloc | apply pw_below_drewN | apply below_drew1 | refine below_set ?_ GE827.out) | exact HB.out)); (case side2 => exact Kd.R_tight rfl HO_11.out); rintro e w62 ⟨rfl, hy0, hb, hkp⟩; refine ⟨_, rfl, ?_⟩; replace HO_8 := asd (Kd.R_mono (ok' := fun k_ => some k_ ≠ (.slice Ao61 t845.length co61 : Value).ownBlock) (Kd.R_keptB (HO_8.out) hkp (fun k_ hk_ hs_ => (hk_) hs_)) (fun k_ hk_ => hk_.1)); replace BK827 := asd (blk_kept (bkp BK827) hkp (fun hs_ => (fun e_ => (Kd.R_ne HO_11.out BK827.out (by decide)) e_) hs_)); replace HO_11 := asd (Kd.R_reok rfl hy0 (fun k_ e_ => HO_11.out.1 k_ e_)); replace HB := asd (hb); (try clear hb); (try clear hkp); (try clear hy0)) | ((with_reducible refine gate_callee (f := 15) rfl ?_); refine goesL_ (some 77) rfl rfl Tryz.func15 (by kernel_rfl) rfl #[.slice Ao61 t858.length co61, .int .i64 1] rfl (by (try simp only [List.map_toArray, List.map_cons, List.map_nil]); first | done | (rw [show t858.length = t845.length from (Kd.R_reads' HO_11.out).1.symm] <;> rfl) | rfl | (simp only [List.length_drop, List.length_take]; rfl)) ?_; (with_reducible refine (laws_heldMotionS.calls _ _ _ _ _ _ _ ?side1 ?side2 A54.out).mono ?_); (case side1 => exact ks (Kd.R_reads' HO_11.out).2.2); (case side2 => rw [show t858.length = t845.length from (Kd.R_reads' HO_11.out).1.symm]; exact (Kd.R_reads' HO_11.out).2.1); rintro e w' ⟨rfl, ⟨nd, rfl⟩⟩; refine ⟨_, rfl, ?_⟩; have hcz63_0 : w62.cell? ⟨gb827, 0, none⟩ = some (.int .i64 a1_0) := bcl BK827 0; have hcz63_1 : w62.cell? ⟨gb827, 1, none⟩ = some (.int .i64 a1_1) := bcl BK827 1; have hcz63_2 : w62.cell? ⟨gb827, 2, none⟩ = some (.int .i64 a1_2) := bcl BK827 2; have hfz63_0 := blk_frozen BK827.out 0; have hfz63_1 := blk_frozen BK827.out 1; have hfz63_2 := blk_frozen BK827.out 2) | ((with_reducible refine gate_callee (f := 10) rfl ?_); refine gl 86 Tryz.func10 #[.agg #[.int .i64 a1_0, .int .i64 a1_1, .int .i64 a1_2]] ?_; (with_reducible refine (laws_toLattice.calls _ _ _ _ _ _ _ A57.out).mono ?_); rintro e w64 ⟨rfl, hb⟩; refine ⟨_, rfl, ?_⟩; replace HO_8 := asd (Kd.R_below (kr HO_8) hb); replace HO_11 := asd (Kd.R_below (kr HO_11) hb); replace BK827 := bB BK827 hb; replace HB := bS1 HB GE827 hb; (try clear hb)) | ((with_reducible refine gate_callee (f := 11) rfl ?_); refine gl 88 Tryz.func11 #[.slice A2 l2.length c2] ?_; (with_reducible refine (laws_toMotionS.calls _ _ _ _ _ _ ?side1 ?side2 A58.out).mono ?_); (case side1 => exact ks (Kd.C_below HR2.out HB.out)); (case side2 => exact HC2.out); rintro e w65 ⟨v864, rfl, ho0, hb⟩; refine ⟨_, rfl, ?_⟩; have HO865 := asd (Kd.R_lower (Kd.R_new' (Kd.R_new' ho0 (Kd.R_lt (kr HO_8))) (Kd.R_lt (kr HO_11))) (bsz1 HB GE827)); replace HO_8 := asd (Kd.R_elder' (kr HO_8) (Kd.R_base ho0) hb); replace HO_11 := asd (Kd.R_elder' (kr HO_11) (Kd.R_base ho0) hb); replace BK827 := bB BK827 hb; replace HB := bS1 HB GE827 hb; (try clear hb); (try clear hb2); (try clear hk); (try clear hi); (try clear ho0); obtain ⟨Ao66, co66, eo66⟩ := Kd.R_slice HO865.out; subst eo66) | ((with_reducible refine gate_callee (f := 12) rfl ?_); refine gl 89 Tryz.func12 #[.int .i64 a0, .agg #[.int .i64 t860, .int .i64 t861, .int .i64 t862], .slice Ao66 t863.length co66] ?_; (with_reducible refine (impl_CloseGroup.calls _ _ _ _ _ _ _ _ _ _ _ ?side1 ?side2 A59.out).mono ?_); (case side1 => exact ks (Kd.R_reads' HO865.out).2.2); (case side2 => exact (Kd.R_reads' HO865.out).2.1); rintro e w67 ⟨v867, rfl, ho0, hb⟩; refine ⟨_, rfl, ?_⟩; have HO868 := asd (Kd.R_lower (Kd.R_new' (Kd.R_new' (Kd.R_new' ho0 (Kd.R_lt (kr HO_8))) (Kd.R_lt (kr HO_11))) (Kd.R_lt (kr HO865))) (bsz1 HB GE827)); replace HO_8 := asd (Kd.R_elder' (kr HO_8) (Kd.R_base ho0) hb); replace HO_11 := asd (Kd.R_elder' (kr HO_11) (Kd.R_base ho0) hb); replace HO865 := asd (Kd.R_elder' (kr HO865) (Kd.R_base ho0) hb); replace BK827 := bB BK827 hb; replace HB := bS1 HB GE827 hb; (try clear hb); (try clear hb2); (try clear hk); (try clear hi); (try clear ho0)))
           (try simp only [Act.put, sA, sB, sC])
           go_cut [100] (fun v100 wc => ∃ (kq : Nat) (x100_59 : Bool), v100 = .bool x100_59 ∧ Aside0 (laws_FnExactCloseGroup.j2 kq t858 t857 x100_59 = some true) ∧ Aside0 (kq ≤ kj37) ∧ Aside0 (Kd.R k48 48 wc w.heap.size (fun _ => True) (.slice Ao61 t845.length co61) t858) ∧ Aside0 (wc.heap[gb827]? = some (.cells #[.int .i64 a1_0, .int .i64 a1_1, .int .i64 a1_2] 23 (0, 0))) ∧ Aside0 (Below w.heap.size w wc))
           case first =>
            have H := HC60.out
            clear HC60
            obtain ⟨t870, A68, H⟩ := ob H
            try dsimp only at H
            by_cases c69 : t870 = true
            subst c69
            replace H := ifT H
            have H' := Aside0.mk H
            clear H
            rotate_left
            replace c69 := Bool.eq_false_iff.mpr c69
            subst c69
            replace H := ifF H
            have H' := Aside0.mk H
            clear H
            rotate_left
            all_goals
             obtain ⟨Ao70, co70, eo70⟩ := Kd.R_slice HO868.out
             subst eo70
             obtain ⟨Ao71, co71, eo71⟩ := Kd.R_slice HO_8.out
             subst eo71
             go_wp2_with (first | ((with_reducible refine gate_callee (f := 13) rfl ?_); refine gl 94 Tryz.func13 #[.slice Ao70 t866.length co70, .slice Ao71 t835.length co71] ?_; (with_reducible refine (laws_eqMotionS.calls _ _ _ _ _ _ _ _ _ ?side1 ?side2 ?side3 ?side4 A68.out).mono ?_); (case side1 => exact ks (Kd.R_reads' HO868.out).2.2); (case side2 => exact (Kd.R_reads' HO868.out).2.1); (case side3 => exact ks (Kd.R_reads' HO_8.out).2.2); (case side4 => exact (Kd.R_reads' HO_8.out).2.1); rintro e w72 ⟨rfl, hb⟩; refine ⟨_, rfl, ?_⟩; replace HO_8 := asd (Kd.R_below (kr HO_8) hb); replace HO_11 := asd (Kd.R_below (kr HO_11) hb); replace HO865 := asd (Kd.R_below (kr HO865) hb); replace HO868 := asd (Kd.R_below (kr HO868) hb); replace BK827 := bB BK827 hb; replace HB := bS1 HB GE827 hb; (try clear hb)))
             go_meet
            ·case rel => exact ⟨_, ((t869 != t838)), (by first | rfl | (simp; done) | (simp [*]; done)), H', ⟨by have := HJ12.out; have := HJ37.out; first | omega | exact Nat.le_refl _⟩, ⟨by (with_reducible repeat (first | apply Kd.R_alloc | apply Kd.R_drewN | apply Kd.R_drew)); exact Kd.R_mono HO_11.out (fun _ hk => trivial)⟩, ⟨bkp BK827⟩, ⟨bbw1 HB GE827⟩⟩
            ·case rel => exact ⟨_, (true), (by first | rfl | (simp; done) | (simp [*]; done)), H', ⟨by have := HJ12.out; have := HJ37.out; first | omega | exact Nat.le_refl _⟩, ⟨by (with_reducible repeat (first | apply Kd.R_alloc | apply Kd.R_drewN | apply Kd.R_drew)); exact Kd.R_mono HO_11.out (fun _ hk => trivial)⟩, ⟨bkp BK827⟩, ⟨bbw1 HB GE827⟩⟩
           case rest =>
            clear HC60
            try clear c1
            try clear c2
            try clear p2
            try clear c3
            try clear c4
            try clear c5
            try clear c5b0
            try clear c6
            try clear c8
            try clear c9
            try clear c10
            try clear c11
            try clear c12
            try clear c13
            try clear c14
            try clear c15
            try clear c26
            try clear c33
            try clear c36
            try clear c43
            try clear c43b0
            try clear c45
            try clear c52
            try clear c55
            try clear c55b0
            try clear c56
            try clear c56b0
            try clear c56b1
            try clear c69
            try clear hcz15_0
            try clear hcz15_1
            try clear hcz15_2
            try clear hcz21_0
            try clear hcz21_1
            try clear hcz21_2
            try clear hcz63_0
            try clear hcz63_1
            try clear hcz63_2
            try clear hfz15_0
            try clear hfz15_1
            try clear hfz15_2
            try clear hfz21_0
            try clear hfz21_1
            try clear hfz21_2
            try clear hfz63_0
            try clear hfz63_1
            try clear hfz63_2
            try clear p2
            obtain ⟨kq, x100_59, rfl, HA, HJ59, HO_11, BK827, HB⟩ := hcut
            have hl11_59 := (Kd.R_reads' HO_11.out).1
            rw [hl11_59] at HO_11
            (try simp only [hl11_59])
            (try simp only [hl11_59] at BK827)
            cases kq with
            | zero => exact absurd HA.out (by simp [laws_FnExactCloseGroup.j2])
            | succ kj59 =>
             have H := HA.out
             clear HA
             simp only [laws_FnExactCloseGroup.j2] at H
             by_cases c76 : x100_59 = true
             ·subst c76
              replace H := ifT H
              exact absurd H (by simp)
             ·replace c76 := Bool.eq_false_iff.mpr c76
              subst c76
              replace H := ifF H
              obtain ⟨t871, A77, H⟩ := ob H
              try dsimp only at H
              by_cases c78 : t871 < 0
              ·rw [if_pos c78] at H
               have c78b0 := decide_eq_true c78
               clear c78
               exact absurd H (by simp)
              ·rw [if_neg c78] at H
               have c78b0 := decide_eq_false c78
               clear c78
               by_cases c79 : t871 = t857
               ·rw [if_pos c79] at H
                have c79b0 : (t871 == t857) = true := beq_iff_eq.mpr c79
                have c79b1 : (t871 != t857) = false := bne_eq_false_iff_eq.mpr c79
                clear c79
                clear H
                go_wp2_with (first | ((with_reducible refine gate_callee (f := 15) rfl ?_); refine gl 103 Tryz.func15 #[.slice Ao61 t858.length co61, .int .i64 1] ?_; (with_reducible refine (laws_heldMotionS.calls _ _ _ _ _ _ _ ?side1 ?side2 A77.out).mono ?_); (case side1 => exact ks (Kd.R_reads' HO_11.out).2.2); (case side2 => exact (Kd.R_reads' HO_11.out).2.1); rintro e w' ⟨rfl, ⟨nd, rfl⟩⟩; refine ⟨_, rfl, ?_⟩))
                go_ret
                exact er (bbw1 HB GE827)
               ·rw [if_neg c79] at H
                have c79b0 : (t871 == t857) = false := beq_eq_false_iff_ne.mpr c79
                have c79b1 : (t871 != t857) = true := bne_iff_ne.mpr c79
                exact absurd H (by simp)
          ·rw [if_neg c56] at H
           have c56b0 : (t859 == t857) = false := beq_eq_false_iff_ne.mpr c56
           have c56b1 : (t859 != t857) = true := bne_iff_ne.mpr c56
           exact absurd H (by simp)
     ·replace c36 := Bool.eq_false_iff.mpr c36
      subst c36
      replace H := ifF H
      exact absurd H (by simp)
def laws_FnExactCloseGroup.Pure : Prop := ∀ (a0 : Int) (a1_0 : Int) (a1_1 : Int) (a1_2 : Int) (l2 : List (S44)), (Lit.int .i64 a0).wf = true → (Lit.int .i64 a1_0).wf = true → (Lit.int .i64 a1_1).wf = true → (Lit.int .i64 a1_2).wf = true → l2.length ≤ maxLen → (∀ x ∈ l2, (Lit.int .i64 x.f0.f0).wf = true ∧ (Lit.int .i64 x.f0.f1).wf = true ∧ (Lit.int .i64 x.f0.f2).wf = true ∧ (Lit.int .i64 x.f0.f3).wf = true ∧ (Lit.int .i64 x.f1.f0).wf = true ∧ (Lit.int .i64 x.f1.f1).wf = true) → ∃ k, laws_FnExactCloseGroup.f k a0 a1_0 a1_1 a1_2 l2 = some true
end Go.Proofs.YtdodghjnlekgeaaGreat.PA
