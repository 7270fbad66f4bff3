/- Walks written by program: each Go function that the law reaches comes to the plain function beside it. -/
import Derived.Test.YtfmjboloeabjmaaPAx0
import Derived.Test.YtfmjboloeabjmaaPAx12
import Derived.Test.YtfmjboloeabjmaaPAx14
import Derived.Test.YtfmjboloeabjmaaPAx16
namespace Go.Proofs.Ytfmjboloeabjmaa.PA
open Go.RowKit Go.Proofs.YtfmjboloeabjmaaW.PrintWords Go.Proofs.YtfmjboloeabjmaaW.PrintLast Go.Proofs.YtfmjboloeabjmaaW.PrintMore
attribute [local go_sem] max2_int min2_int max_two min_two max_three min_three max_four min_four   -- for this text's walks alone
set_option linter.unusedVariables false
set_option linter.unusedSimpArgs false

/-! ### impl_CountCentres: function 8 -/
mutual
def impl_CountCentres.j0 : Nat → List (S44) → Int → Bool → Int → Int → Int → Option (Int × Int)
 | 0, _, _, _, _, _, _ => none
 | k + 1, x2, x3, x43, x545000, x545001, x545002 => if x43 = true then (some (0, 2)) else ((impl_Lattice_basis.f x545000 x545001 x545002).bind fun bt549 => (impl_CountCentres.l0 k x3 (([] : List (S42))) x2 (x2.length : Int) 0 x545000 x545001 x545002 bt549.1 bt549.2.1 bt549.2.2.1 bt549.2.2.2))
def impl_CountCentres.l0 : Nat → Int → List (S42) → List (S44) → Int → Int → Int → Int → Int → Int → Int → Int → Int → Option (Int × Int)
 | 0, _, _, _, _, _, _, _, _, _, _, _, _ => none
 | k + 1, x3, x13, x50, x51, x52, x545000, x545001, x545002, x554000, x554001, x555000, x555001 => if x52 < x51 then (if 0 ≤ x52 then (if x52 < (x50.length : Int) then ((impl_Mat_det.f ((rd_T44 x50 x52).f0.f0) ((rd_T44 x50 x52).f0.f1) ((rd_T44 x50 x52).f0.f2) ((rd_T44 x50 x52).f0.f3)).bind fun t560 => (if t560 = (-1) then (impl_CountCentres.j2 k x3 x13 x50 x51 x52 true x545000 x545001 x545002 x554000 x554001 x555000 x555001 ((rd_T44 x50 x52).f0.f0) ((rd_T44 x50 x52).f0.f1) ((rd_T44 x50 x52).f0.f2) ((rd_T44 x50 x52).f0.f3) ((rd_T44 x50 x52).f1.f0) ((rd_T44 x50 x52).f1.f1)) else ((impl_Mat_order.f k ((rd_T44 x50 x52).f0.f0) ((rd_T44 x50 x52).f0.f1) ((rd_T44 x50 x52).f0.f2) ((rd_T44 x50 x52).f0.f3)).bind fun t561 => (impl_CountCentres.j2 k x3 x13 x50 x51 x52 (t561 != x3) x545000 x545001 x545002 x554000 x554001 x555000 x555001 ((rd_T44 x50 x52).f0.f0) ((rd_T44 x50 x52).f0.f1) ((rd_T44 x50 x52).f0.f2) ((rd_T44 x50 x52).f0.f3) ((rd_T44 x50 x52).f1.f0) ((rd_T44 x50 x52).f1.f1))))) else (none)) else (none)) else (some ((mapVe.card x13), 0))
def impl_CountCentres.j2 : Nat → Int → List (S42) → List (S44) → Int → Int → Bool → Int → Int → Int → Int → Int → Int → Int → Int → Int → Int → Int → Int → Int → Option (Int × Int)
 | 0, _, _, _, _, _, _, _, _, _, _, _, _, _, _, _, _, _, _, _ => none
 | k + 1, x3, x13, x50, x51, x52, x66, x545000, x545001, x545002, x554000, x554001, x555000, x555001, x560000, x560001, x560002, x560003, x560004, x560005 => if x66 = true then (impl_CountCentres.l0 k x3 x13 x50 x51 (wrap64 (x52 + 1)) x545000 x545001 x545002 x554000 x554001 x555000 x555001) else (impl_CountCentres.l1 k x3 x13 (wrap64 ((wrap64 (2 - x560000)) - x560003)) x50 x51 x52 (wrap64 ((wrap64 ((wrap64 (2 - x560000)) - x560003)) * (wrap64 ((wrap64 (2 - x560000)) - x560003)))) 0 x545000 x545001 x545002 x554000 x554001 x555000 x555001 x560000 x560001 x560002 x560003 x560004 x560005 (wrap64 ((wrap64 ((wrap64 (2 - x560000)) - x560003)) * x545000)) (wrap64 ((wrap64 ((wrap64 (2 - x560000)) - x560003)) * x545001)) (wrap64 ((wrap64 ((wrap64 (2 - x560000)) - x560003)) * x545002)))
def impl_CountCentres.l1 : Nat → Int → List (S42) → Int → List (S44) → Int → Int → Int → Int → Int → Int → Int → Int → Int → Int → Int → Int → Int → Int → Int → Int → Int → Int → Int → Int → Option (Int × Int)
 | 0, _, _, _, _, _, _, _, _, _, _, _, _, _, _, _, _, _, _, _, _, _, _, _, _ => none
 | k + 1, x3, x13, x16, x50, x51, x52, x90, x91, x545000, x545001, x545002, x554000, x554001, x555000, x555001, x560000, x560001, x560002, x560003, x560004, x560005, x563000, x563001, x563002 => if x91 < x90 then (if x16 = 0 then (none) else ((impl_Vec_times.f x554000 x554001 (wrap64 (Int.tdiv x91 x16))).bind fun bt563 => ((impl_Vec_add.f x560004 x560005 bt563.1 bt563.2).bind fun bt565 => ((impl_Vec_times.f x555000 x555001 (Int.tmod x91 x16)).bind fun bt567 => ((impl_Vec_add.f bt565.1 bt565.2 bt567.1 bt567.2).bind fun bt569 => ((impl_Motion_centre.f k x560000 x560001 x560002 x560003 bt569.1 bt569.2).bind fun bt572 => (if bt572.2.2 = 0 then (none) else ((impl_Vec_times.f bt572.1 bt572.2.1 (wrap64 (Int.tdiv x16 bt572.2.2))).bind fun bt576 => ((impl_Lattice_reduce.f x563000 x563001 x563002 bt576.1 bt576.2).bind fun bt578 => (if (x13.length < 2932031007402 ∧ mapVe.wf (⟨bt578.1, bt578.2⟩ : S42) = true) then (impl_CountCentres.l1 k x3 (x13 ++ [(⟨bt578.1, bt578.2⟩ : S42)]) x16 x50 x51 x52 x90 (wrap64 (x91 + 1)) x545000 x545001 x545002 x554000 x554001 x555000 x555001 x560000 x560001 x560002 x560003 x560004 x560005 x563000 x563001 x563002) else (none))))))))))) else (impl_CountCentres.l0 k x3 x13 x50 x51 (wrap64 (x52 + 1)) x545000 x545001 x545002 x554000 x554001 x555000 x555001)
end
def impl_CountCentres.f (k : Nat) (a0 : Int) (a1_0 : Int) (a1_1 : Int) (a1_2 : Int) (l2 : List (S44)) (a3 : Int) : Option (Int × Int) := (impl_groupCode.f k a0 a1_0 a1_1 a1_2 (([l2] : List (List (S44))))).bind fun t548 => (if t548 = 0 then (if a3 = 2 then (impl_CountCentres.j0 k l2 a3 false a1_0 a1_1 a1_2) else (if a3 = 3 then (impl_CountCentres.j0 k l2 a3 false a1_0 a1_1 a1_2) else (if a3 = 4 then (impl_CountCentres.j0 k l2 a3 false a1_0 a1_1 a1_2) else (impl_CountCentres.j0 k l2 a3 (a3 != 6) a1_0 a1_1 a1_2)))) else (some (0, t548)))
def impl_CountCentres.T17 : Bool × List (List Nat × List Nat) := (true, [([], []), ([0], [0]), ([], []), ([2], [2]), ([], []), ([], []), ([], []), ([5, 6], [5, 6]), ([4, 7], [4, 7]), ([3, 8, 8], [3, 8]), ([], []), ([], []), ([], []), ([11, 12], [11, 12]), ([10, 13, 9], [10, 13]), ([9, 14, 14], [9, 14]), ([1, 15], [1, 15]), ([], []), ([17, 16, 15, 0, 1, 2, 3, 4, 5, 6, 7, 8, 9, 10, 11, 12, 13, 14, 15, 16, 17], [16, 17])])
def impl_CountCentres.B17 : List Nat := [0, 1, 0, 4, 0, 0, 0, 96, 240, 508, 0, 0, 0, 6144, 16380, 32764, 65535, 0, 262143]
theorem impl_CountCentres.tab17 : rtab .any (opsOf Try.f8 17) = impl_CountCentres.T17 := by kernel_rfl
theorem impl_CountCentres.bits17 : waitsOk impl_CountCentres.T17.2 impl_CountCentres.B17 = true := by kernel_rfl
def impl_CountCentres.T19 : Bool × List (List Nat × List Nat) := (true, [([], []), ([], []), ([], []), ([], []), ([], []), ([3, 4], [3, 4]), ([2, 5], [2, 5]), ([1, 6, 6], [1, 6]), ([0, 7, 7, 0, 1, 2, 3, 4, 5, 6, 7], [0, 7])])
def impl_CountCentres.B19 : List Nat := [0, 0, 0, 0, 0, 24, 60, 126, 255]
theorem impl_CountCentres.tab19 : rtab .any (opsOf Try.f8 19) = impl_CountCentres.T19 := by kernel_rfl
theorem impl_CountCentres.bits19 : waitsOk impl_CountCentres.T19.2 impl_CountCentres.B19 = true := by kernel_rfl
set_option maxHeartbeats 8000000 in
set_option maxRecDepth 100000 in
theorem impl_CountCentres.calls (k : Nat) (a0 : Int) (a1_0 : Int) (a1_1 : Int) (a1_2 : Int) (P2_ : Nat → Prop) (A2 : Option Addr) (c2 : Nat) (l2 : List (S44)) (a3 : Int) (r1 : Int) (r2 : Int) (w : World) (hs2 : Kd.V k44 44 w w.heap.size (fun k_ => P2_ k_) (.slice A2 l2.length c2) l2) (h : impl_CountCentres.f k a0 a1_0 a1_1 a1_2 l2 a3 = some (r1, r2)) :
  Calls Try.prog 8 #[.int .i64 a0, .agg #[.int .i64 a1_0, .int .i64 a1_1, .int .i64 a1_2], .slice A2 l2.length c2, .int .i64 a3] w fun e w' => e = .returned (.tuple #[.int .i64 r1, .int .i64 r2]) ∧ Below w.heap.size w w' := by
 have hu28 := Try.underlying28
 have hu42 := Try.underlying42
 have hu44 := Try.underlying44
 have hu40 := Try.underlying40
 have HO2 := asd (show Kd.V k44 44 w w.heap.size (fun k_ => (P2_ k_ ∨ w.heap.size ≤ k_)) (.slice A2 l2.length c2) l2 from Kd.V_mono hs2 (fun k_ hk => .inl hk))
 have HB := asd (Below.refl w.heap.size w)
 have H : ((impl_groupCode.f k a0 a1_0 a1_1 a1_2 (([l2] : List (List (S44))))).bind fun t548 => (if t548 = 0 then (if a3 = 2 then (impl_CountCentres.j0 k l2 a3 false a1_0 a1_1 a1_2) else (if a3 = 3 then (impl_CountCentres.j0 k l2 a3 false a1_0 a1_1 a1_2) else (if a3 = 4 then (impl_CountCentres.j0 k l2 a3 false a1_0 a1_1 a1_2) else (impl_CountCentres.j0 k l2 a3 (a3 != 6) a1_0 a1_1 a1_2)))) else (some (0, t548)))) = some (r1, r2) := h
 clear h
 obtain ⟨y545, hy545⟩ : ∃ y_ : List (List (S44)), y_ = (([l2] : List (List (S44)))) := ⟨_, rfl⟩
 replace H : ((impl_groupCode.f k a0 a1_0 a1_1 a1_2 y545).bind fun t548 => (if t548 = 0 then (if a3 = 2 then (impl_CountCentres.j0 k l2 a3 false a1_0 a1_1 a1_2) else (if a3 = 3 then (impl_CountCentres.j0 k l2 a3 false a1_0 a1_1 a1_2) else (if a3 = 4 then (impl_CountCentres.j0 k l2 a3 false a1_0 a1_1 a1_2) else (impl_CountCentres.j0 k l2 a3 (a3 != 6) a1_0 a1_1 a1_2)))) else (some (0, t548)))) = some (r1, r2) := by first | (rw [hy545]; with_reducible exact H) | (have H2_ := (Option.bind_some _ _).symm.trans H; rw [hy545]; with_reducible exact H2_) | (have H2_ := (Option.bind_some _ _).symm.trans H; with_reducible exact H2_) | with_reducible exact H | (rw [hy545]; exact H) | exact H
 have Ny545 := Aside0.mk hy545
 clear hy545
 obtain ⟨t548, A5, H⟩ := ob H
 try dsimp only at H
 by_cases c6 : t548 = 0
 ·rw [if_pos c6] at H
  have c6b0 : (t548 == 0) = true := beq_iff_eq.mpr c6
  have c6b1 : (t548 != 0) = false := bne_eq_false_iff_eq.mpr c6
  clear c6
  have HC7 := Aside0.mk H
  clear H
  go_enter Try.func8, Try.ntmps8
  go_upto_region 4 with (first | ((with_reducible refine gd 5 rfl ?_); refine bx #[.int .i64 a1_0, .int .i64 a1_1, .int .i64 a1_2] 28 ?_; intro gb544 hg w8 BK544 hb; replace HO2 := asd (Kd.V_below (Kd.V_elderB (by (with_reducible repeat (first | apply Kd.V_alloc | apply Kd.V_drewN | apply Kd.V_drew)); exact HO2.out) gb544 (Nat.le_of_eq hg.symm)) hb); have GE544 := ngw0 hg HB; replace HB := bS0 HB hb; clear hb hg; obtain ⟨hcz9_0, hcz9_1, hcz9_2, hfz9_0, hfz9_1, hfz9_2⟩ := bz3 BK544) | ((with_reducible refine gd 25 rfl ?_); refine Kd.N_lit (Kd.slice 44 k44) _ 30 ?hg (N' := 25) ?hd (xs := ([l2] : List (List (S44)))) (inner := [.slice A2 l2.length c2]) (ok := (fun k_ => (P2_ k_ ∨ w.heap.size ≤ k_) ∧ k_ ≠ gb544)) (okp := (fun k_ => (P2_ k_ ∨ w.heap.size ≤ k_) ∧ k_ ≠ gb544)) ?hr ?hp (fun _ hk => hk) ((show ∀ k_, w8.heap.size ≤ k_ → (fun k_ => (P2_ k_ ∨ w.heap.size ≤ k_) ∧ k_ ≠ gb544) k_ from fun k_ hk => ⟨(.inr (Nat.le_trans (bsz1 HB GE544) hk)), Kd.freshB (g := gb544) (o := .cells #[.int .i64 a1_0, .int .i64 a1_1, .int .i64 a1_2] 28 (0, 0)) (bkp BK544) k_ hk⟩) _ (Nat.le_refl _)) (Below.refl _ _) (Nat.le_refl _) (by simp) ?_; (case hd => rfl); (case hg => rfl); (case hr => first | (go_simp; done) | (go_simp; rfl)); (case hp => exact (Reps.one (show Kd.FK (Kd.slice 44 k44) _ _ l2 [.slice A2 l2.length c2] from (Kd.FK_slice_mk (Kd.V_reads' (Kd.V_mono (ok' := (fun k_ => (P2_ k_ ∨ w.heap.size ≤ k_) ∧ k_ ≠ gb544)) (HO2.out) (fun k_ hk => ⟨hk.1, hk.2⟩))).2.1 (Kd.V_F (Kd.V_mono (ok' := (fun k_ => (P2_ k_ ∨ w.heap.size ≤ k_) ∧ k_ ≠ gb544)) (HO2.out) (fun k_ hk => ⟨hk.1, hk.2⟩))))) (Reps.none _ _))); intro v546 w10 ho11 hb hg_ hnew_; clear hg_ hnew_; (first | rw [← Ny545.out] at ho11 | (simp only [Int.reduceToNat] at ho11; rw [← Ny545.out] at ho11)); replace HO2 := asd (Kd.V_elder' (by (with_reducible repeat (first | apply Kd.V_alloc | apply Kd.V_drewN | apply Kd.V_drew)); exact HO2.out) (Kd.N_base ho11) hb); have HO547 := asd (Kd.N_lower ho11 (bsz1 HB GE544)); replace BK544 := bB BK544 hb; replace HB := bS1 HB GE544 hb; clear hb ho11; obtain ⟨Ao12, co12, eo12⟩ := Kd.N_slice HO547.out; subst eo12) | ((with_reducible refine gate_callee (f := 14) rfl ?_); refine gl 26 Try.func14 #[.int .i64 a0, .agg #[.int .i64 a1_0, .int .i64 a1_1, .int .i64 a1_2], .slice Ao12 y545.length co12] ?_; (with_reducible refine (impl_groupCode.calls _ _ _ _ _ _ _ _ _ _ ?side1 ?side2 A5.out).mono ?_); (case side1 => exact ks (Kd.N_reads' HO547.out).2.2); (case side2 => exact (Kd.N_reads' HO547.out).2.1); rintro e w13 ⟨rfl, hb⟩; refine ⟨_, rfl, ?_⟩; replace HO2 := asd (Kd.V_below (by (with_reducible repeat (first | apply Kd.V_alloc | apply Kd.V_drewN | apply Kd.V_drew)); exact HO2.out) hb); replace HO547 := asd (Kd.N_below (by (with_reducible repeat (first | apply Kd.N_alloc | apply Kd.N_drewN | apply Kd.N_drew)); exact HO547.out) hb); replace BK544 := bB BK544 hb; replace HB := bS1 HB GE544 hb; (try clear hb)))
  (try simp only [Act.put, sA, sB, sC])
  go_cut [43] (fun v43 wc => ∃ (kq : Nat) (x43_6 : Bool), v43 = .bool x43_6 ∧ Aside0 (impl_CountCentres.j0 kq l2 a3 x43_6 a1_0 a1_1 a1_2 = some (r1, r2)) ∧ Aside0 (kq ≤ k) ∧ Aside0 (Kd.V k44 44 wc w.heap.size (fun k_ => (P2_ k_ ∨ w.heap.size ≤ k_) ∧ k_ ≠ gb544) (.slice A2 l2.length c2) l2) ∧ Aside0 (wc.heap[gb544]? = some (.cells #[.int .i64 a1_0, .int .i64 a1_1, .int .i64 a1_2] 28 (0, 0))) ∧ Aside0 (Below w.heap.size w wc))
  case first =>
   have H := HC7.out
   clear HC7
   by_cases c14 : a3 = 2
   ·rw [if_pos c14] at H
    have c14b0 : (a3 == 2) = true := beq_iff_eq.mpr c14
    have c14b1 : (a3 != 2) = false := bne_eq_false_iff_eq.mpr c14
    clear c14
    (first | rw [c14b0] | (simp only [i64_w, i32_w]; rw [c14b0]) | skip)
    have H' := Aside0.mk H
    clear H
    go_wp2
    go_meet
    case rel => exact ⟨_, (false), (by first | rfl | (simp; done) | (simp [*]; done)), H', ⟨by first | omega | exact Nat.le_refl _⟩, ⟨by (with_reducible repeat (first | apply Kd.V_alloc | apply Kd.V_drewN | apply Kd.V_drew)); exact Kd.V_mono HO2.out (fun _ hk => ⟨hk.1.1, hk.1.2⟩)⟩, ⟨bkp BK544⟩, ⟨bbw1 HB GE544⟩⟩
   ·rw [if_neg c14] at H
    have c14b0 : (a3 == 2) = false := beq_eq_false_iff_ne.mpr c14
    have c14b1 : (a3 != 2) = true := bne_iff_ne.mpr c14
    (first | rw [c14b0] | (simp only [i64_w, i32_w]; rw [c14b0]) | skip)
    by_cases c15 : a3 = 3
    rw [if_pos c15] at H
    have c15b0 : (a3 == 3) = true := beq_iff_eq.mpr c15
    have c15b1 : (a3 != 3) = false := bne_eq_false_iff_eq.mpr c15
    clear c15
    have H' := Aside0.mk H
    clear H
    rotate_left
    rw [if_neg c15] at H
    have c15b0 : (a3 == 3) = false := beq_eq_false_iff_ne.mpr c15
    have c15b1 : (a3 != 3) = true := bne_iff_ne.mpr c15
    by_cases c16 : a3 = 4
    rw [if_pos c16] at H
    have c16b0 : (a3 == 4) = true := beq_iff_eq.mpr c16
    have c16b1 : (a3 != 4) = false := bne_eq_false_iff_eq.mpr c16
    clear c16
    have H' := Aside0.mk H
    clear H
    rotate_left
    rw [if_neg c16] at H
    have c16b0 : (a3 == 4) = false := beq_eq_false_iff_ne.mpr c16
    have c16b1 : (a3 != 4) = true := bne_iff_ne.mpr c16
    have H' := Aside0.mk H
    clear H
    rotate_left
    all_goals
     go_wp2
     go_meet
    rotate_left 2
    ·case rel => exact ⟨_, ((a3 != 6)), (by first | rfl | (simp; done) | (simp [*]; done)), H', ⟨by first | omega | exact Nat.le_refl _⟩, ⟨by (with_reducible repeat (first | apply Kd.V_alloc | apply Kd.V_drewN | apply Kd.V_drew)); exact Kd.V_mono HO2.out (fun _ hk => ⟨hk.1.1, hk.1.2⟩)⟩, ⟨bkp BK544⟩, ⟨bbw1 HB GE544⟩⟩
    all_goals
     case rel => exact ⟨_, (false), (by first | rfl | (simp; done) | (simp [*]; done)), H', ⟨by first | omega | exact Nat.le_refl _⟩, ⟨by (with_reducible repeat (first | apply Kd.V_alloc | apply Kd.V_drewN | apply Kd.V_drew)); exact Kd.V_mono HO2.out (fun _ hk => ⟨hk.1.1, hk.1.2⟩)⟩, ⟨bkp BK544⟩, ⟨bbw1 HB GE544⟩⟩
  case rest =>
   clear HC7
   try clear c1
   try clear c2
   try clear p2
   try clear c6
   try clear c6b0
   try clear c6b1
   try clear c8
   try clear c14
   try clear c14b0
   try clear c14b1
   try clear c15
   try clear c15b0
   try clear c15b1
   try clear c16
   try clear c16b0
   try clear c16b1
   try clear hcz9_0
   try clear hcz9_1
   try clear hcz9_2
   try clear hfz9_0
   try clear hfz9_1
   try clear hfz9_2
   obtain ⟨kq, x43_6, rfl, HA, HJ6, HO_2, BK544, HB⟩ := hcut
   cases kq with
   | zero => exact absurd HA.out (by simp [impl_CountCentres.j0])
   | succ kj6 =>
    have H := HA.out
    clear HA
    simp only [impl_CountCentres.j0] at H
    by_cases c17 : x43_6 = true
    ·subst c17
     replace H := ifT H
     simp only [Option.some.injEq, Prod.mk.injEq] at H
     obtain ⟨rfl, rfl⟩ := H
     go_wp2
     go_ret2
     exact er (bbw1 HB GE544)
    ·replace c17 := Bool.eq_false_iff.mpr c17
     subst c17
     replace H := ifF H
     obtain ⟨⟨t549, t550, t551, t552⟩, A18, H⟩ := ob H
     try dsimp only at H
     obtain ⟨y555, hy555⟩ : ∃ y_ : List (S42), y_ = (([] : List (S42))) := ⟨_, rfl⟩
     replace H : (impl_CountCentres.l0 kj6 a3 y555 l2 (l2.length : Int) 0 a1_0 a1_1 a1_2 t549 t550 t551 t552) = some (r1, r2) := by first | (rw [hy555]; with_reducible exact H) | (have H2_ := (Option.bind_some _ _).symm.trans H; rw [hy555]; with_reducible exact H2_) | (have H2_ := (Option.bind_some _ _).symm.trans H; with_reducible exact H2_) | with_reducible exact H | (rw [hy555]; exact H) | exact H
     have Ny555 := Aside0.mk hy555
     clear hy555
     have H' := Aside0.mk H
     clear H
     obtain ⟨hcz19_0, hcz19_1, hcz19_2, hfz19_0, hfz19_1, hfz19_2⟩ := bz3 BK544
     go_wp2_with (first | ((with_reducible refine gate_callee (f := 15) rfl ?_); refine gl 46 Try.func15 #[.agg #[.int .i64 a1_0, .int .i64 a1_1, .int .i64 a1_2]] ?_; (with_reducible refine (impl_Lattice_basis.calls _ _ _ _ _ _ _ _ A18.out).mono ?_); rintro e w20 ⟨rfl, hb⟩; refine ⟨_, rfl, ?_⟩; replace HO_2 := asd (Kd.V_below (by (with_reducible repeat (first | apply Kd.V_alloc | apply Kd.V_drewN | apply Kd.V_drew)); exact HO_2.out) hb); replace BK544 := bB BK544 hb; replace HB := bS1 HB GE544 hb; (try clear hb)) | ((with_reducible refine gd 11 rfl ?_); refine bx #[.int .i64 0, .int .i64 0] 42 ?_; intro gb553 hg w21 BK553 hb; replace HO_2 := asd (Kd.V_below (Kd.V_elderB (by (with_reducible repeat (first | apply Kd.V_alloc | apply Kd.V_drewN | apply Kd.V_drew)); exact HO_2.out) gb553 (Nat.le_of_eq hg.symm)) hb); have GE553 := ngw1 hg HB GE544; replace HB := bS1 HB GE544 hb; have NB544_553 := nlt hg BK544; have NB553_544 := nsy (nlt hg BK544); replace BK544 := bB BK544 hb; clear hb hg) | ((with_reducible refine gd 12 rfl ?_); refine bx #[.int .i64 0, .int .i64 0] 42 ?_; intro gb554 hg w22 BK554 hb; replace HO_2 := asd (Kd.V_below (Kd.V_elderB (by (with_reducible repeat (first | apply Kd.V_alloc | apply Kd.V_drewN | apply Kd.V_drew)); exact HO_2.out) gb554 (Nat.le_of_eq hg.symm)) hb); have GE554 := ngw2 hg HB GE544 GE553; replace HB := bS2 HB GE544 GE553 hb; have NB544_554 := nlt hg BK544; have NB554_544 := nsy (nlt hg BK544); replace BK544 := bB BK544 hb; have NB553_554 := nlt hg BK553; have NB554_553 := nsy (nlt hg BK553); replace BK553 := bB BK553 hb; clear hb hg; have hnb23 := NB553_544.out; have hnc23 := NB544_553.out; have hnb24 := NB553_554.out; have hnc24 := NB554_553.out; obtain ⟨hcz25_0, hcz25_1, hfz25_0, hfz25_1⟩ := bz2 BK553; have hnb26 := NB554_544.out; have hnc26 := NB544_554.out; obtain ⟨hcz27_0, hcz27_1, hfz27_0, hfz27_1⟩ := bz2 BK554) | ((with_reducible refine gd 49 rfl ?_); refine mapVe.make_event ?hg (N := 49) ?hd ?hr ?_; (case hd => rfl); (case hg => rfl); (case hr => first | rfl | (go_simp; done) | (go_simp; rfl)); intro gbM hg w28 hmap_ hb; rw [← Ny555.out] at hmap_; have GEM := asd ((by rw [hg]; exact (bsz3 HB GE544 GE553 GE554) : w.heap.size ≤ gbM)); replace HO_2 := asd (Kd.V_below (Kd.V_elderB (by (with_reducible repeat (first | apply Kd.V_alloc | apply Kd.V_drewN | apply Kd.V_drew)); exact (Kd.V_mono (Kd.V_mono (Kd.V_far (p := ⟨gb554, 1, none⟩) (Kd.V_far (p := ⟨gb554, 0, none⟩) (Kd.V_far (p := ⟨gb553, 1, none⟩) (Kd.V_far (p := ⟨gb553, 0, none⟩) (Kd.V_mono (Kd.V_mono HO_2.out (fun k_ hk => (⟨hk, hk.1.2⟩ : _ ∧ k_ ≠ gb553))) (fun k_ hk => (⟨hk, hk.1.2⟩ : _ ∧ k_ ≠ gb554))) (fun _ hk => hk.1.2) (.int .i64 t549)) (fun _ hk => hk.1.2) (.int .i64 t550)) (fun _ hk => hk.2) (.int .i64 t551)) (fun _ hk => hk.2) (.int .i64 t552)) (fun _ h_ => h_.1)) (fun _ h_ => h_.1))) gbM (Nat.le_of_eq hg.symm)) hb); have HO557 := Aside0.mk hmap_; replace BK544 := asd (blk_below (g := gb544) (o := .cells #[.int .i64 a1_0, .int .i64 a1_1, .int .i64 a1_2] 28 (0, 0)) (bq2 BK544 NB544_554 NB544_553) hb); replace BK553 := asd (blk_below (g := gb553) (o := .cells #[.int .i64 t549, .int .i64 t550] 42 (0, 0)) (bq1 BK553 NB553_554) hb); replace BK554 := asd (blk_below (g := gb554) (o := .cells #[.int .i64 t551, .int .i64 t552] 42 (0, 0)) (bq1 BK554 NB554_553) hb); replace HB := bS3 HB GE544 GE553 GE554 hb; clear hb hmap_ hg))
     go_loopg [52] kj6 (fun kq v52 w' => ∃ (x13_2 : List (S42)) (x52_2 : Int), v52 = .int .i64 x52_2 ∧ Aside0 (impl_CountCentres.l0 kq a3 x13_2 l2 (l2.length : Int) x52_2 a1_0 a1_1 a1_2 t549 t550 t551 t552 = some (r1, r2)) ∧ Aside0 (kq ≤ kj6) ∧ Aside0 (mapVe.MS w' gbM x13_2) ∧ Aside0 (Kd.V k44 44 w' w.heap.size (fun k_ => (P2_ k_ ∨ w.heap.size ≤ k_) ∧ k_ ≠ gbM ∧ k_ ≠ gb544 ∧ k_ ≠ gb553 ∧ k_ ≠ gb554) (.slice A2 l2.length c2) l2) ∧ Aside0 (w'.heap[gb544]? = some (.cells #[.int .i64 a1_0, .int .i64 a1_1, .int .i64 a1_2] 28 (0, 0))) ∧ Aside0 (w'.heap[gb553]? = some (.cells #[.int .i64 t549, .int .i64 t550] 42 (0, 0))) ∧ Aside0 (w'.heap[gb554]? = some (.cells #[.int .i64 t551, .int .i64 t552] 42 (0, 0))) ∧ Aside0 (Below w.heap.size w w'))
     case atStart => exact ⟨(y555), (0), (by first | rfl | (simp; done) | (simp [*]; done)), H', ⟨Nat.le_refl _⟩, ⟨by (with_reducible repeat (first | apply mapVe.MS_alloc | apply mapVe.MS_drewN | apply mapVe.MS_drew)); exact HO557.out⟩, ⟨by (with_reducible repeat (first | apply Kd.V_alloc | apply Kd.V_drewN | apply Kd.V_drew)); exact Kd.V_mono HO_2.out (fun _ hk => ⟨hk.1.1.1.1, ⟨hk.2, ⟨hk.1.1.1.2, ⟨hk.1.1.2, hk.1.2⟩⟩⟩⟩)⟩, ⟨bkp BK544⟩, ⟨bkp BK553⟩, ⟨bkp BK554⟩, ⟨bbw3 HB GE544 GE553 GE554⟩⟩
     case round =>
      clear H'
      try clear c1
      try clear c2
      try clear p2
      try clear c6
      try clear c6b0
      try clear c6b1
      try clear c8
      try clear c14
      try clear c14b0
      try clear c14b1
      try clear c15
      try clear c15b0
      try clear c15b1
      try clear c16
      try clear c16b0
      try clear c16b1
      try clear c17
      try clear c23
      try clear c24
      try clear c26
      try clear hcz19_0
      try clear hcz19_1
      try clear hcz19_2
      try clear hcz25_0
      try clear hcz25_1
      try clear hcz27_0
      try clear hcz27_1
      try clear hcz9_0
      try clear hcz9_1
      try clear hcz9_2
      try clear hfz19_0
      try clear hfz19_1
      try clear hfz19_2
      try clear hfz25_0
      try clear hfz25_1
      try clear hfz27_0
      try clear hfz27_1
      try clear hfz9_0
      try clear hfz9_1
      try clear hfz9_2
      try clear p2
      obtain ⟨x13_2, x52_2, rfl, HA, HK2, HO_13, HO_50, BK544, BK553, BK554, HB⟩ := hrel
      cases gk with
      | zero => exact absurd HA.out (by simp [impl_CountCentres.l0])
      | succ k2 =>
       have H := HA.out
       clear HA
       simp only [impl_CountCentres.l0] at H
       by_cases c30 : x52_2 < (l2.length : Int)
       rw [if_pos c30] at H
       have c30b0 := decide_eq_true c30
       clear c30
       by_cases c31 : 0 ≤ x52_2
       rw [if_pos c31] at H
       have c31b0 := decide_eq_true c31
       clear c31
       by_cases c32 : x52_2 < (l2.length : Int)
       rw [if_pos c32] at H
       have c32b0 := decide_eq_true c32
       clear c32
       rotate_left
       ·rw [if_neg c32] at H
        exact absurd H (by simp)
       ·rw [if_neg c31] at H
        exact absurd H (by simp)
       rw [if_neg c30] at H
       have c30b0 := decide_eq_false c30
       clear c30
       rotate_left
       ·have HC33 := Aside0.mk H
        clear H
        have p558 : 0 ≤ (x52_2 : Int) := od
        have q558 : x52_2 < (l2.length : Int) := od
        obtain ⟨ad558, e558, hx558_0, hx558_1, hx558_2, hx558_3, hx558_4, hx558_5⟩ := at_T44 (Kd.V_reads' HO_50.out).2.2 x52_2 p558 q558
        cases e558
        replace p558 := eq_true p558
        replace q558 := eq_true q558
        go_upto_region 11 with (first | ((with_reducible refine gd 15 rfl ?_); refine bx #[.int .i64 0, .int .i64 0, .int .i64 0, .int .i64 0, .int .i64 0, .int .i64 0] 44 ?_; intro gb559 hg w34 BK559 hb; replace HO_13 := asd (mapVe.MS_via HO_13.out (by (with_reducible repeat (first | apply mapVe.MS_alloc | apply mapVe.MS_drewN | apply mapVe.MS_drew)); exact HO_13.out) hb); replace HO_50 := asd (Kd.V_below (Kd.V_elderB (by (with_reducible repeat (first | apply Kd.V_alloc | apply Kd.V_drewN | apply Kd.V_drew)); exact HO_50.out) gb559 (Nat.le_of_eq hg.symm)) hb); have GE559 := ngw3 hg HB GE544 GE553 GE554; replace HB := bS3 HB GE544 GE553 GE554 hb; have NB544_559 := nlt hg BK544; have NB559_544 := nsy (nlt hg BK544); replace BK544 := bB BK544 hb; have NB553_559 := nlt hg BK553; have NB559_553 := nsy (nlt hg BK553); replace BK553 := bB BK553 hb; have NB554_559 := nlt hg BK554; have NB559_554 := nsy (nlt hg BK554); replace BK554 := bB BK554 hb; clear hb hg; have hnb35 := NB559_544.out; have hnc35 := NB544_559.out; have hnb36 := NB559_553.out; have hnc36 := NB553_559.out; have hnb37 := NB559_554.out; have hnc37 := NB554_559.out; obtain ⟨hcz38_0, hcz38_1, hcz38_2, hcz38_3, hcz38_4, hcz38_5, hfz38_0, hfz38_1, hfz38_2, hfz38_3, hfz38_4, hfz38_5⟩ := bz6 BK559))
        (try simp only [Act.put, sA, sB, sC])
        go_cut [66] (fun v66 wc => ∃ (kq : Nat) (x66_32 : Bool), v66 = .bool x66_32 ∧ Aside0 (impl_CountCentres.j2 kq a3 x13_2 l2 (l2.length : Int) x52_2 x66_32 a1_0 a1_1 a1_2 t549 t550 t551 t552 ((rd_T44 l2 x52_2).f0.f0) ((rd_T44 l2 x52_2).f0.f1) ((rd_T44 l2 x52_2).f0.f2) ((rd_T44 l2 x52_2).f0.f3) ((rd_T44 l2 x52_2).f1.f0) ((rd_T44 l2 x52_2).f1.f1) = some (r1, r2)) ∧ Aside0 (kq ≤ k2) ∧ Aside0 (mapVe.MS wc gbM x13_2) ∧ Aside0 (Kd.V k44 44 wc w.heap.size (fun k_ => (P2_ k_ ∨ w.heap.size ≤ k_) ∧ k_ ≠ gbM ∧ k_ ≠ gb544 ∧ k_ ≠ gb553 ∧ k_ ≠ gb554 ∧ k_ ≠ gb559) (.slice (some ad558) l2.length c2) l2) ∧ Aside0 (wc.heap[gb544]? = some (.cells #[.int .i64 a1_0, .int .i64 a1_1, .int .i64 a1_2] 28 (0, 0))) ∧ Aside0 (wc.heap[gb553]? = some (.cells #[.int .i64 t549, .int .i64 t550] 42 (0, 0))) ∧ Aside0 (wc.heap[gb554]? = some (.cells #[.int .i64 t551, .int .i64 t552] 42 (0, 0))) ∧ Aside0 (wc.heap[gb559]? = some (.cells #[.int .i64 ((rd_T44 l2 x52_2).f0.f0), .int .i64 ((rd_T44 l2 x52_2).f0.f1), .int .i64 ((rd_T44 l2 x52_2).f0.f2), .int .i64 ((rd_T44 l2 x52_2).f0.f3), .int .i64 ((rd_T44 l2 x52_2).f1.f0), .int .i64 ((rd_T44 l2 x52_2).f1.f1)] 44 (0, 0))) ∧ Aside0 (Below w.heap.size w wc))
        case first =>
         have H := HC33.out
         clear HC33
         obtain ⟨t560, A39, H⟩ := ob H
         try dsimp only at H
         by_cases c40 : t560 = (-1)
         rw [if_pos c40] at H
         have c40b0 : (t560 == (-1)) = true := beq_iff_eq.mpr c40
         have c40b1 : (t560 != (-1)) = false := bne_eq_false_iff_eq.mpr c40
         clear c40
         rotate_left
         rw [if_neg c40] at H
         have c40b0 : (t560 == (-1)) = false := beq_eq_false_iff_ne.mpr c40
         have c40b1 : (t560 != (-1)) = true := bne_iff_ne.mpr c40
         rotate_left
         all_goals
          (first | rw [c40b0] | (simp only [i64_w, i32_w]; rw [c40b0]) | skip)
         rotate_left
         obtain ⟨t561, A46, H⟩ := ob H
         try dsimp only at H
         rotate_left
         all_goals
          have H' := Aside0.mk H
          clear H
          have hnb41 := NB559_544.out
          have hnc41 := NB544_559.out
          have hnb42 := NB559_553.out
          have hnc42 := NB553_559.out
          have hnb43 := NB559_554.out
          have hnc43 := NB554_559.out
         ·obtain ⟨hcz44_0, hcz44_1, hcz44_2, hcz44_3, hcz44_4, hcz44_5, hfz44_0, hfz44_1, hfz44_2, hfz44_3, hfz44_4, hfz44_5⟩ := bz6 BK559
          go_wp2_with (first | ((with_reducible refine gate_callee (f := 16) rfl ?_); refine gl 58 Try.func16 #[.agg #[.int .i64 ((rd_T44 l2 x52_2).f0.f0), .int .i64 ((rd_T44 l2 x52_2).f0.f1), .int .i64 ((rd_T44 l2 x52_2).f0.f2), .int .i64 ((rd_T44 l2 x52_2).f0.f3)]] ?_; (with_reducible refine (impl_Mat_det.calls _ _ _ _ _ _ A39.out).mono ?_); rintro e w45 ⟨rfl, hb⟩; refine ⟨_, rfl, ?_⟩; replace HO_13 := asd (mapVe.MS_via HO_13.out (by exact (by have q_ := mapVe.MS_ne HO_13.out BK559.out; repeat (first | (with_reducible first | exact HO_13.out | refine mapVe.MS_set ?_ q_ | apply mapVe.MS_alloc | apply mapVe.MS_drewN | apply mapVe.MS_drew) | exact HO_13.out))) hb); replace HO_50 := asd (Kd.V_below (by (with_reducible repeat (first | apply Kd.V_alloc | apply Kd.V_drewN | apply Kd.V_drew)); exact (Kd.V_mono (Kd.V_far (p := ⟨gb559, 5, none⟩) (Kd.V_far (p := ⟨gb559, 4, none⟩) (Kd.V_far (p := ⟨gb559, 3, none⟩) (Kd.V_far (p := ⟨gb559, 2, none⟩) (Kd.V_far (p := ⟨gb559, 1, none⟩) (Kd.V_far (p := ⟨gb559, 0, none⟩) (Kd.V_mono HO_50.out (fun k_ hk => (⟨hk, hk.2⟩ : _ ∧ k_ ≠ gb559))) (fun _ hk => hk.2) (.int .i64 ((rd_T44 l2 x52_2).f0.f0))) (fun _ hk => hk.2) (.int .i64 ((rd_T44 l2 x52_2).f0.f1))) (fun _ hk => hk.2) (.int .i64 ((rd_T44 l2 x52_2).f0.f2))) (fun _ hk => hk.2) (.int .i64 ((rd_T44 l2 x52_2).f0.f3))) (fun _ hk => hk.2) (.int .i64 ((rd_T44 l2 x52_2).f1.f0))) (fun _ hk => hk.2) (.int .i64 ((rd_T44 l2 x52_2).f1.f1))) (fun _ h_ => h_.1))) hb); replace BK544 := asd (blk_below (g := gb544) (o := .cells #[.int .i64 a1_0, .int .i64 a1_1, .int .i64 a1_2] 28 (0, 0)) (bq1 BK544 NB544_559) hb); replace BK553 := asd (blk_below (g := gb553) (o := .cells #[.int .i64 t549, .int .i64 t550] 42 (0, 0)) (bq1 BK553 NB553_559) hb); replace BK554 := asd (blk_below (g := gb554) (o := .cells #[.int .i64 t551, .int .i64 t552] 42 (0, 0)) (bq1 BK554 NB554_559) hb); replace BK559 := asd (blk_below (g := gb559) (o := .cells #[.int .i64 ((rd_T44 l2 x52_2).f0.f0), .int .i64 ((rd_T44 l2 x52_2).f0.f1), .int .i64 ((rd_T44 l2 x52_2).f0.f2), .int .i64 ((rd_T44 l2 x52_2).f0.f3), .int .i64 ((rd_T44 l2 x52_2).f1.f0), .int .i64 ((rd_T44 l2 x52_2).f1.f1)] 44 (0, 0)) (bq0 BK559) hb); replace HB := bS4 HB GE544 GE553 GE554 GE559 hb; (try clear hb)))
          go_meet
          case rel => exact ⟨_, (true), (by first | rfl | (simp; done) | (simp [*]; done)), H', ⟨by have := HJ6.out; have := HK2.out; first | omega | exact Nat.le_refl _⟩, ⟨by (with_reducible repeat (first | apply mapVe.MS_alloc | apply mapVe.MS_drewN | apply mapVe.MS_drew)); exact HO_13.out⟩, ⟨by (with_reducible repeat (first | apply Kd.V_alloc | apply Kd.V_drewN | apply Kd.V_drew)); exact Kd.V_mono HO_50.out (fun _ hk => ⟨hk.1.1, ⟨hk.1.2.1, ⟨hk.1.2.2.1, ⟨hk.1.2.2.2.1, ⟨hk.1.2.2.2.2, hk.2⟩⟩⟩⟩⟩)⟩, ⟨bkp BK544⟩, ⟨bkp BK553⟩, ⟨bkp BK554⟩, ⟨bkp BK559⟩, ⟨bbw4 HB GE544 GE553 GE554 GE559⟩⟩
         ·obtain ⟨hcz50_0, hcz50_1, hcz50_2, hcz50_3, hcz50_4, hcz50_5, hfz50_0, hfz50_1, hfz50_2, hfz50_3, hfz50_4, hfz50_5⟩ := bz6 BK559
          go_wp2_with (first | ((with_reducible refine gate_callee (f := 16) rfl ?_); refine gl 58 Try.func16 #[.agg #[.int .i64 ((rd_T44 l2 x52_2).f0.f0), .int .i64 ((rd_T44 l2 x52_2).f0.f1), .int .i64 ((rd_T44 l2 x52_2).f0.f2), .int .i64 ((rd_T44 l2 x52_2).f0.f3)]] ?_; (with_reducible refine (impl_Mat_det.calls _ _ _ _ _ _ A39.out).mono ?_); rintro e w51 ⟨rfl, hb⟩; refine ⟨_, rfl, ?_⟩; replace HO_13 := asd (mapVe.MS_via HO_13.out (by exact (by have q_ := mapVe.MS_ne HO_13.out BK559.out; repeat (first | (with_reducible first | exact HO_13.out | refine mapVe.MS_set ?_ q_ | apply mapVe.MS_alloc | apply mapVe.MS_drewN | apply mapVe.MS_drew) | exact HO_13.out))) hb); replace HO_50 := asd (Kd.V_below (by (with_reducible repeat (first | apply Kd.V_alloc | apply Kd.V_drewN | apply Kd.V_drew)); exact (Kd.V_mono (Kd.V_far (p := ⟨gb559, 5, none⟩) (Kd.V_far (p := ⟨gb559, 4, none⟩) (Kd.V_far (p := ⟨gb559, 3, none⟩) (Kd.V_far (p := ⟨gb559, 2, none⟩) (Kd.V_far (p := ⟨gb559, 1, none⟩) (Kd.V_far (p := ⟨gb559, 0, none⟩) (Kd.V_mono HO_50.out (fun k_ hk => (⟨hk, hk.2⟩ : _ ∧ k_ ≠ gb559))) (fun _ hk => hk.2) (.int .i64 ((rd_T44 l2 x52_2).f0.f0))) (fun _ hk => hk.2) (.int .i64 ((rd_T44 l2 x52_2).f0.f1))) (fun _ hk => hk.2) (.int .i64 ((rd_T44 l2 x52_2).f0.f2))) (fun _ hk => hk.2) (.int .i64 ((rd_T44 l2 x52_2).f0.f3))) (fun _ hk => hk.2) (.int .i64 ((rd_T44 l2 x52_2).f1.f0))) (fun _ hk => hk.2) (.int .i64 ((rd_T44 l2 x52_2).f1.f1))) (fun _ h_ => h_.1))) hb); replace BK544 := asd (blk_below (g := gb544) (o := .cells #[.int .i64 a1_0, .int .i64 a1_1, .int .i64 a1_2] 28 (0, 0)) (bq1 BK544 NB544_559) hb); replace BK553 := asd (blk_below (g := gb553) (o := .cells #[.int .i64 t549, .int .i64 t550] 42 (0, 0)) (bq1 BK553 NB553_559) hb); replace BK554 := asd (blk_below (g := gb554) (o := .cells #[.int .i64 t551, .int .i64 t552] 42 (0, 0)) (bq1 BK554 NB554_559) hb); replace BK559 := asd (blk_below (g := gb559) (o := .cells #[.int .i64 ((rd_T44 l2 x52_2).f0.f0), .int .i64 ((rd_T44 l2 x52_2).f0.f1), .int .i64 ((rd_T44 l2 x52_2).f0.f2), .int .i64 ((rd_T44 l2 x52_2).f0.f3), .int .i64 ((rd_T44 l2 x52_2).f1.f0), .int .i64 ((rd_T44 l2 x52_2).f1.f1)] 44 (0, 0)) (bq0 BK559) hb); replace HB := bS4 HB GE544 GE553 GE554 GE559 hb; (try clear hb); obtain ⟨hcz52_0, hcz52_1, hcz52_2, hcz52_3, hcz52_4, hcz52_5, hfz52_0, hfz52_1, hfz52_2, hfz52_3, hfz52_4, hfz52_5⟩ := bz6 BK559) | (go_at_call 17; (with_reducible refine (impl_Mat_order.calls _ _ _ _ _ _ _ A46.out).mono ?_); rintro e w53 ⟨rfl, hb⟩; replace HO_13 := asd (mapVe.MS_via HO_13.out (by (with_reducible repeat (first | apply mapVe.MS_alloc | apply mapVe.MS_drewN | apply mapVe.MS_drew)); exact HO_13.out) hb); replace HO_50 := asd (Kd.V_below (by (with_reducible repeat (first | apply Kd.V_alloc | apply Kd.V_drewN | apply Kd.V_drew)); exact HO_50.out) hb); replace BK544 := bB BK544 hb; replace BK553 := bB BK553 hb; replace BK554 := bB BK554 hb; replace BK559 := bB BK559 hb; replace HB := bS4 HB GE544 GE553 GE554 GE559 hb; (try clear hb)))
          go_meet
          case rel => exact ⟨_, ((t561 != a3)), (by first | rfl | (simp; done) | (simp [*]; done)), H', ⟨by have := HJ6.out; have := HK2.out; first | omega | exact Nat.le_refl _⟩, ⟨by (with_reducible repeat (first | apply mapVe.MS_alloc | apply mapVe.MS_drewN | apply mapVe.MS_drew)); exact HO_13.out⟩, ⟨by (with_reducible repeat (first | apply Kd.V_alloc | apply Kd.V_drewN | apply Kd.V_drew)); exact Kd.V_mono HO_50.out (fun _ hk => ⟨hk.1.1, ⟨hk.1.2.1, ⟨hk.1.2.2.1, ⟨hk.1.2.2.2.1, ⟨hk.1.2.2.2.2, hk.2⟩⟩⟩⟩⟩)⟩, ⟨bkp BK544⟩, ⟨bkp BK553⟩, ⟨bkp BK554⟩, ⟨bkp BK559⟩, ⟨bbw4 HB GE544 GE553 GE554 GE559⟩⟩
        case rest =>
         clear HC33
         try clear c1
         try clear c2
         try clear p2
         try clear c3
         try clear c4
         try clear p5
         try clear q5
         try clear hx5
         try clear c6
         try clear c6b0
         try clear c6b1
         try clear c8
         try clear c14
         try clear c14b0
         try clear c14b1
         try clear c15
         try clear c15b0
         try clear c15b1
         try clear c16
         try clear c16b0
         try clear c16b1
         try clear c17
         try clear c23
         try clear c24
         try clear c26
         try clear c30
         try clear c30b0
         try clear c31
         try clear c31b0
         try clear c32
         try clear c32b0
         try clear c35
         try clear c36
         try clear c37
         try clear c40
         try clear c40b0
         try clear c40b1
         try clear c41
         try clear c42
         try clear c43
         try clear c47
         try clear c48
         try clear c49
         try clear hcz19_0
         try clear hcz19_1
         try clear hcz19_2
         try clear hcz25_0
         try clear hcz25_1
         try clear hcz27_0
         try clear hcz27_1
         try clear hcz38_0
         try clear hcz38_1
         try clear hcz38_2
         try clear hcz38_3
         try clear hcz38_4
         try clear hcz38_5
         try clear hcz44_0
         try clear hcz44_1
         try clear hcz44_2
         try clear hcz44_3
         try clear hcz44_4
         try clear hcz44_5
         try clear hcz50_0
         try clear hcz50_1
         try clear hcz50_2
         try clear hcz50_3
         try clear hcz50_4
         try clear hcz50_5
         try clear hcz52_0
         try clear hcz52_1
         try clear hcz52_2
         try clear hcz52_3
         try clear hcz52_4
         try clear hcz52_5
         try clear hcz9_0
         try clear hcz9_1
         try clear hcz9_2
         try clear hfz19_0
         try clear hfz19_1
         try clear hfz19_2
         try clear hfz25_0
         try clear hfz25_1
         try clear hfz27_0
         try clear hfz27_1
         try clear hfz38_0
         try clear hfz38_1
         try clear hfz38_2
         try clear hfz38_3
         try clear hfz38_4
         try clear hfz38_5
         try clear hfz44_0
         try clear hfz44_1
         try clear hfz44_2
         try clear hfz44_3
         try clear hfz44_4
         try clear hfz44_5
         try clear hfz50_0
         try clear hfz50_1
         try clear hfz50_2
         try clear hfz50_3
         try clear hfz50_4
         try clear hfz50_5
         try clear hfz52_0
         try clear hfz52_1
         try clear hfz52_2
         try clear hfz52_3
         try clear hfz52_4
         try clear hfz52_5
         try clear hfz9_0
         try clear hfz9_1
         try clear hfz9_2
         try clear hx558_0
         try clear hx558_1
         try clear hx558_2
         try clear hx558_3
         try clear hx558_4
         try clear hx558_5
         try clear p2
         try clear p558
         try clear q558
         obtain ⟨kq, x66_32, rfl, HA, HJ32, HO_13, HO_50, BK544, BK553, BK554, BK559, HB⟩ := hcut
         cases kq with
         | zero => exact absurd HA.out (by simp [impl_CountCentres.j2])
         | succ kj32 =>
          have H := HA.out
          clear HA
          simp only [impl_CountCentres.j2] at H
          by_cases c54 : x66_32 = true
          ·subst c54
           replace H := ifT H
           have H' := Aside0.mk H
           clear H
           go_wp2
           go_roundg kj32
           case measure => have := HJ6.out; have := HK2.out; have := HJ32.out; omega
           case rel => exact ⟨(x13_2), (wrap64 (x52_2 + 1)), (by first | rfl | (simp; done) | (simp [*]; done)), H', ⟨by have := HJ6.out; have := HK2.out; have := HJ32.out; omega⟩, ⟨by (with_reducible repeat (first | apply mapVe.MS_alloc | apply mapVe.MS_drewN | apply mapVe.MS_drew)); exact HO_13.out⟩, ⟨by (with_reducible repeat (first | apply Kd.V_alloc | apply Kd.V_drewN | apply Kd.V_drew)); exact Kd.V_mono HO_50.out (fun _ hk => ⟨hk.1, ⟨hk.2.1, ⟨hk.2.2.1, ⟨hk.2.2.2.1, hk.2.2.2.2.1⟩⟩⟩⟩)⟩, ⟨bkp BK544⟩, ⟨bkp BK553⟩, ⟨bkp BK554⟩, ⟨bbw4 HB GE544 GE553 GE554 GE559⟩⟩
          ·replace c54 := Bool.eq_false_iff.mpr c54
           subst c54
           replace H := ifF H
           have H' := Aside0.mk H
           clear H
           have hnb55 := NB559_544.out
           have hnc55 := NB544_559.out
           have hnb56 := NB559_553.out
           have hnc56 := NB553_559.out
           have hnb57 := NB559_554.out
           have hnc57 := NB554_559.out
           obtain ⟨hcz58_0, hcz58_1, hcz58_2, hcz58_3, hcz58_4, hcz58_5, hfz58_0, hfz58_1, hfz58_2, hfz58_3, hfz58_4, hfz58_5⟩ := bz6 BK559
           have hnb59 := NB544_553.out
           have hnc59 := NB553_544.out
           have hnb60 := NB544_554.out
           have hnc60 := NB554_544.out
           obtain ⟨hcz61_0, hcz61_1, hcz61_2, hfz61_0, hfz61_1, hfz61_2⟩ := bz3 BK544
           go_wp2_with (first | ((with_reducible refine gd 17 rfl ?_); refine bx #[.int .i64 0, .int .i64 0, .int .i64 0] 28 ?_; intro gb562 hg w62 BK562 hb; replace HO_13 := asd (mapVe.MS_via HO_13.out (by (with_reducible repeat (first | apply mapVe.MS_alloc | apply mapVe.MS_drewN | apply mapVe.MS_drew)); exact HO_13.out) hb); replace HO_50 := asd (Kd.V_below (Kd.V_elderB (by (with_reducible repeat (first | apply Kd.V_alloc | apply Kd.V_drewN | apply Kd.V_drew)); exact HO_50.out) gb562 (Nat.le_of_eq hg.symm)) hb); have GE562 := ngw4 hg HB GE544 GE553 GE554 GE559; replace HB := bS4 HB GE544 GE553 GE554 GE559 hb; have NB544_562 := nlt hg BK544; have NB562_544 := nsy (nlt hg BK544); replace BK544 := bB BK544 hb; have NB553_562 := nlt hg BK553; have NB562_553 := nsy (nlt hg BK553); replace BK553 := bB BK553 hb; have NB554_562 := nlt hg BK554; have NB562_554 := nsy (nlt hg BK554); replace BK554 := bB BK554 hb; have NB559_562 := nlt hg BK559; have NB562_559 := nsy (nlt hg BK559); replace BK559 := bB BK559 hb; clear hb hg; have hnb63 := NB562_544.out; have hnc63 := NB544_562.out; have hnb64 := NB562_553.out; have hnc64 := NB553_562.out; have hnb65 := NB562_554.out; have hnc65 := NB554_562.out; have hnb66 := NB562_559.out; have hnc66 := NB559_562.out; obtain ⟨hcz67_0, hcz67_1, hcz67_2, hfz67_0, hfz67_1, hfz67_2⟩ := bz3 BK562))
           go_loopg [91] kj32 (fun kq v91 w' => ∃ (x13_4 : List (S42)) (x91_4 : Int), v91 = .int .i64 x91_4 ∧ Aside0 (impl_CountCentres.l1 kq a3 x13_4 (wrap64 ((wrap64 (2 - ((rd_T44 l2 x52_2).f0.f0))) - ((rd_T44 l2 x52_2).f0.f3))) l2 (l2.length : Int) x52_2 (wrap64 ((wrap64 ((wrap64 (2 - ((rd_T44 l2 x52_2).f0.f0))) - ((rd_T44 l2 x52_2).f0.f3))) * (wrap64 ((wrap64 (2 - ((rd_T44 l2 x52_2).f0.f0))) - ((rd_T44 l2 x52_2).f0.f3))))) x91_4 a1_0 a1_1 a1_2 t549 t550 t551 t552 ((rd_T44 l2 x52_2).f0.f0) ((rd_T44 l2 x52_2).f0.f1) ((rd_T44 l2 x52_2).f0.f2) ((rd_T44 l2 x52_2).f0.f3) ((rd_T44 l2 x52_2).f1.f0) ((rd_T44 l2 x52_2).f1.f1) (wrap64 ((wrap64 ((wrap64 (2 - ((rd_T44 l2 x52_2).f0.f0))) - ((rd_T44 l2 x52_2).f0.f3))) * a1_0)) (wrap64 ((wrap64 ((wrap64 (2 - ((rd_T44 l2 x52_2).f0.f0))) - ((rd_T44 l2 x52_2).f0.f3))) * a1_1)) (wrap64 ((wrap64 ((wrap64 (2 - ((rd_T44 l2 x52_2).f0.f0))) - ((rd_T44 l2 x52_2).f0.f3))) * a1_2)) = some (r1, r2)) ∧ Aside0 (kq ≤ kj32) ∧ Aside0 (mapVe.MS w' gbM x13_4) ∧ Aside0 (Kd.V k44 44 w' w.heap.size (fun k_ => (P2_ k_ ∨ w.heap.size ≤ k_) ∧ k_ ≠ gbM ∧ k_ ≠ gb544 ∧ k_ ≠ gb553 ∧ k_ ≠ gb554 ∧ k_ ≠ gb559 ∧ k_ ≠ gb562) (.slice (some ad558) l2.length c2) l2) ∧ Aside0 (w'.heap[gb544]? = some (.cells #[.int .i64 a1_0, .int .i64 a1_1, .int .i64 a1_2] 28 (0, 0))) ∧ Aside0 (w'.heap[gb553]? = some (.cells #[.int .i64 t549, .int .i64 t550] 42 (0, 0))) ∧ Aside0 (w'.heap[gb554]? = some (.cells #[.int .i64 t551, .int .i64 t552] 42 (0, 0))) ∧ Aside0 (w'.heap[gb559]? = some (.cells #[.int .i64 ((rd_T44 l2 x52_2).f0.f0), .int .i64 ((rd_T44 l2 x52_2).f0.f1), .int .i64 ((rd_T44 l2 x52_2).f0.f2), .int .i64 ((rd_T44 l2 x52_2).f0.f3), .int .i64 ((rd_T44 l2 x52_2).f1.f0), .int .i64 ((rd_T44 l2 x52_2).f1.f1)] 44 (0, 0))) ∧ Aside0 (w'.heap[gb562]? = some (.cells #[.int .i64 (wrap64 ((wrap64 ((wrap64 (2 - ((rd_T44 l2 x52_2).f0.f0))) - ((rd_T44 l2 x52_2).f0.f3))) * a1_0)), .int .i64 (wrap64 ((wrap64 ((wrap64 (2 - ((rd_T44 l2 x52_2).f0.f0))) - ((rd_T44 l2 x52_2).f0.f3))) * a1_1)), .int .i64 (wrap64 ((wrap64 ((wrap64 (2 - ((rd_T44 l2 x52_2).f0.f0))) - ((rd_T44 l2 x52_2).f0.f3))) * a1_2))] 28 (0, 0))) ∧ Aside0 (Below w.heap.size w w'))
           case atStart => exact ⟨(x13_2), (0), (by first | rfl | (simp; done) | (simp [*]; done)), H', ⟨Nat.le_refl _⟩, ⟨by exact (by have q_ := mapVe.MS_ne HO_13.out BK562.out; repeat (first | (with_reducible first | exact HO_13.out | refine mapVe.MS_set ?_ q_ | apply mapVe.MS_alloc | apply mapVe.MS_drewN | apply mapVe.MS_drew) | exact HO_13.out))⟩, ⟨by (with_reducible repeat (first | apply Kd.V_alloc | apply Kd.V_drewN | apply Kd.V_drew)); exact Kd.V_mono (Kd.V_far (p := ⟨gb562, 2, none⟩) (Kd.V_far (p := ⟨gb562, 1, none⟩) (Kd.V_far (p := ⟨gb562, 0, none⟩) (Kd.V_mono HO_50.out (fun k_ hk => (⟨hk, hk.2⟩ : _ ∧ k_ ≠ gb562))) (fun _ hk => hk.2) (.int .i64 (wrap64 ((wrap64 ((wrap64 (2 - ((rd_T44 l2 x52_2).f0.f0))) - ((rd_T44 l2 x52_2).f0.f3))) * a1_0)))) (fun _ hk => hk.2) (.int .i64 (wrap64 ((wrap64 ((wrap64 (2 - ((rd_T44 l2 x52_2).f0.f0))) - ((rd_T44 l2 x52_2).f0.f3))) * a1_1)))) (fun _ hk => hk.2) (.int .i64 (wrap64 ((wrap64 ((wrap64 (2 - ((rd_T44 l2 x52_2).f0.f0))) - ((rd_T44 l2 x52_2).f0.f3))) * a1_2)))) (fun _ hk => ⟨hk.1.1.1, ⟨hk.1.1.2.1, ⟨hk.1.1.2.2.1, ⟨hk.1.1.2.2.2.1, ⟨hk.1.1.2.2.2.2.1, ⟨hk.1.1.2.2.2.2.2, hk.1.2⟩⟩⟩⟩⟩⟩)⟩, ⟨bq1 BK544 NB544_562⟩, ⟨bq1 BK553 NB553_562⟩, ⟨bq1 BK554 NB554_562⟩, ⟨bq1 BK559 NB559_562⟩, ⟨bq0 BK562⟩, ⟨by repeat (first | (with_reducible first | exact HB.out | apply below_alloc | apply pw_below_drewN | apply below_drew1 | refine below_set ?_ GE544.out | refine below_set ?_ GE553.out | refine below_set ?_ GE554.out | refine below_set ?_ GE559.out | refine below_set ?_ GE562.out) | exact HB.out)⟩⟩
           case round =>
            clear H'
            try clear c1
            try clear c2
            try clear p2
            try clear c3
            try clear c4
            try clear c5
            try clear p5
            try clear q5
            try clear hx5
            try clear c6
            try clear c6b0
            try clear c6b1
            try clear p6
            try clear c8
            try clear c14
            try clear c14b0
            try clear c14b1
            try clear c15
            try clear c15b0
            try clear c15b1
            try clear c16
            try clear c16b0
            try clear c16b1
            try clear c17
            try clear c23
            try clear c24
            try clear c26
            try clear c30
            try clear c30b0
            try clear c31
            try clear c31b0
            try clear c32
            try clear c32b0
            try clear c35
            try clear c36
            try clear c37
            try clear c40
            try clear c40b0
            try clear c40b1
            try clear c41
            try clear c42
            try clear c43
            try clear c47
            try clear c48
            try clear c49
            try clear c54
            try clear c55
            try clear p55
            try clear q55
            try clear hx55
            try clear c56
            try clear c57
            try clear c59
            try clear c60
            try clear c63
            try clear c64
            try clear p64
            try clear c65
            try clear c66
            try clear hcz19_0
            try clear hcz19_1
            try clear hcz19_2
            try clear hcz25_0
            try clear hcz25_1
            try clear hcz27_0
            try clear hcz27_1
            try clear hcz38_0
            try clear hcz38_1
            try clear hcz38_2
            try clear hcz38_3
            try clear hcz38_4
            try clear hcz38_5
            try clear hcz44_0
            try clear hcz44_1
            try clear hcz44_2
            try clear hcz44_3
            try clear hcz44_4
            try clear hcz44_5
            try clear hcz50_0
            try clear hcz50_1
            try clear hcz50_2
            try clear hcz50_3
            try clear hcz50_4
            try clear hcz50_5
            try clear hcz52_0
            try clear hcz52_1
            try clear hcz52_2
            try clear hcz52_3
            try clear hcz52_4
            try clear hcz52_5
            try clear hcz58_0
            try clear hcz58_1
            try clear hcz58_2
            try clear hcz58_3
            try clear hcz58_4
            try clear hcz58_5
            try clear hcz61_0
            try clear hcz61_1
            try clear hcz61_2
            try clear hcz67_0
            try clear hcz67_1
            try clear hcz67_2
            try clear hcz9_0
            try clear hcz9_1
            try clear hcz9_2
            try clear hfz19_0
            try clear hfz19_1
            try clear hfz19_2
            try clear hfz25_0
            try clear hfz25_1
            try clear hfz27_0
            try clear hfz27_1
            try clear hfz38_0
            try clear hfz38_1
            try clear hfz38_2
            try clear hfz38_3
            try clear hfz38_4
            try clear hfz38_5
            try clear hfz44_0
            try clear hfz44_1
            try clear hfz44_2
            try clear hfz44_3
            try clear hfz44_4
            try clear hfz44_5
            try clear hfz50_0
            try clear hfz50_1
            try clear hfz50_2
            try clear hfz50_3
            try clear hfz50_4
            try clear hfz50_5
            try clear hfz52_0
            try clear hfz52_1
            try clear hfz52_2
            try clear hfz52_3
            try clear hfz52_4
            try clear hfz52_5
            try clear hfz58_0
            try clear hfz58_1
            try clear hfz58_2
            try clear hfz58_3
            try clear hfz58_4
            try clear hfz58_5
            try clear hfz61_0
            try clear hfz61_1
            try clear hfz61_2
            try clear hfz67_0
            try clear hfz67_1
            try clear hfz67_2
            try clear hfz9_0
            try clear hfz9_1
            try clear hfz9_2
            try clear hx558_0
            try clear hx558_1
            try clear hx558_2
            try clear hx558_3
            try clear hx558_4
            try clear hx558_5
            try clear p2
            try clear p5
            try clear p558
            try clear q5
            try clear q558
            obtain ⟨x13_4, x91_4, rfl, HA, HK4, HO_13, HO_50, BK544, BK553, BK554, BK559, BK562, HB⟩ := hrel
            cases gk with
            | zero => exact absurd HA.out (by simp [impl_CountCentres.l1])
            | succ k4 =>
             have H := HA.out
             clear HA
             simp only [impl_CountCentres.l1] at H
             by_cases c68 : x91_4 < (wrap64 ((wrap64 ((wrap64 (2 - ((rd_T44 l2 x52_2).f0.f0))) - ((rd_T44 l2 x52_2).f0.f3))) * (wrap64 ((wrap64 (2 - ((rd_T44 l2 x52_2).f0.f0))) - ((rd_T44 l2 x52_2).f0.f3)))))
             rw [if_pos c68] at H
             have c68b0 := decide_eq_true c68
             clear c68
             by_cases c69 : (wrap64 ((wrap64 (2 - ((rd_T44 l2 x52_2).f0.f0))) - ((rd_T44 l2 x52_2).f0.f3))) = 0
             ·rw [if_pos c69] at H
              exact absurd H (by simp)
             rw [if_neg c69] at H
             have c69b0 : ((wrap64 ((wrap64 (2 - ((rd_T44 l2 x52_2).f0.f0))) - ((rd_T44 l2 x52_2).f0.f3))) == 0) = false := beq_eq_false_iff_ne.mpr c69
             have c69b1 : ((wrap64 ((wrap64 (2 - ((rd_T44 l2 x52_2).f0.f0))) - ((rd_T44 l2 x52_2).f0.f3))) != 0) = true := bne_iff_ne.mpr c69
             obtain ⟨⟨t563, t564⟩, A70, H⟩ := ob H
             try dsimp only at H
             obtain ⟨⟨t565, t566⟩, A71, H⟩ := ob H
             try dsimp only at H
             obtain ⟨⟨t567, t568⟩, A72, H⟩ := ob H
             try dsimp only at H
             obtain ⟨⟨t569, t570⟩, A73, H⟩ := ob H
             try dsimp only at H
             obtain ⟨⟨t572, t573, t574⟩, A74, H⟩ := ob H
             try dsimp only at H
             by_cases c75 : t574 = 0
             ·rw [if_pos c75] at H
              exact absurd H (by simp)
             rw [if_neg c75] at H
             have c75b0 : (t574 == 0) = false := beq_eq_false_iff_ne.mpr c75
             have c75b1 : (t574 != 0) = true := bne_iff_ne.mpr c75
             obtain ⟨⟨t576, t577⟩, A76, H⟩ := ob H
             try dsimp only at H
             obtain ⟨⟨t578, t579⟩, A77, H⟩ := ob H
             try dsimp only at H
             by_cases c78 : (x13_4.length < 2932031007402 ∧ mapVe.wf (⟨t578, t579⟩ : S42) = true)
             rw [if_pos c78] at H
             have LMc78 := Aside0.mk c78
             clear c78
             obtain ⟨y580, hy580⟩ : ∃ y_ : List (S42), y_ = (x13_4 ++ [(⟨t578, t579⟩ : S42)]) := ⟨_, rfl⟩
             replace H : (impl_CountCentres.l1 k4 a3 y580 (wrap64 ((wrap64 (2 - ((rd_T44 l2 x52_2).f0.f0))) - ((rd_T44 l2 x52_2).f0.f3))) l2 (l2.length : Int) x52_2 (wrap64 ((wrap64 ((wrap64 (2 - ((rd_T44 l2 x52_2).f0.f0))) - ((rd_T44 l2 x52_2).f0.f3))) * (wrap64 ((wrap64 (2 - ((rd_T44 l2 x52_2).f0.f0))) - ((rd_T44 l2 x52_2).f0.f3))))) (wrap64 (x91_4 + 1)) a1_0 a1_1 a1_2 t549 t550 t551 t552 ((rd_T44 l2 x52_2).f0.f0) ((rd_T44 l2 x52_2).f0.f1) ((rd_T44 l2 x52_2).f0.f2) ((rd_T44 l2 x52_2).f0.f3) ((rd_T44 l2 x52_2).f1.f0) ((rd_T44 l2 x52_2).f1.f1) (wrap64 ((wrap64 ((wrap64 (2 - ((rd_T44 l2 x52_2).f0.f0))) - ((rd_T44 l2 x52_2).f0.f3))) * a1_0)) (wrap64 ((wrap64 ((wrap64 (2 - ((rd_T44 l2 x52_2).f0.f0))) - ((rd_T44 l2 x52_2).f0.f3))) * a1_1)) (wrap64 ((wrap64 ((wrap64 (2 - ((rd_T44 l2 x52_2).f0.f0))) - ((rd_T44 l2 x52_2).f0.f3))) * a1_2))) = some (r1, r2) := by first | (rw [hy580]; with_reducible exact H) | (have H2_ := (Option.bind_some _ _).symm.trans H; rw [hy580]; with_reducible exact H2_) | (have H2_ := (Option.bind_some _ _).symm.trans H; with_reducible exact H2_) | with_reducible exact H | (rw [hy580]; exact H) | exact H
             have Ny580 := Aside0.mk hy580
             clear hy580
             have H' := Aside0.mk H
             clear H
             rotate_left
             ·rw [if_neg c78] at H
              exact absurd H (by simp)
             rw [if_neg c68] at H
             have c68b0 := decide_eq_false c68
             clear c68
             have H' := Aside0.mk H
             clear H
             rotate_left
             ·try go_wp2
              replace HO_13 := asd (mapVe.MS_drew HO_13.out)
              replace HO_50 := asd (Kd.V_drew HO_50.out)
              replace BK544 := asd (blk_drew BK544.out)
              replace BK553 := asd (blk_drew BK553.out)
              replace BK554 := asd (blk_drew BK554.out)
              replace BK559 := asd (blk_drew BK559.out)
              replace BK562 := asd (blk_drew BK562.out)
              replace HB := asd (below_drew1 HB.out)
              refine sh 19 (cb6 BK559 (cb2 BK553 (eb2 BK554))) (fun hHeld => ?_); refine with_tabW impl_CountCentres.tab17 impl_CountCentres.bits17 (fun HT_ HW_ => ?_)
              generalize wr.drew = w79 at HO_13 HO_50 BK544 BK553 BK554 BK559 BK562 HB hHeld ⊢
              refine pu 0 (some 94) (bT 19 1) HT_ ?_
              refine pu 2 (some 96) (bs 19 5) HT_ ?_
              refine pu 5 (some 99) (bs 19 37) HT_ ?_
              refine pu 6 (some 100) (bs 19 101) HT_ ?_
              refine pu 7 (some 101) (bs 19 229) HT_ ?_
              refine pu 11 (some 105) (bs 19 2277) HT_ ?_
              refine pu 12 (some 106) (bs 19 6373) HT_ ?_
              refine pu 13 (some 107) (bs 19 14565) HT_ ?_
              refine ta 1 (some 95) (bs 19 14567) HT_ HW_ hHeld ?_
              refine ta 3 (some 97) (bs 19 14575) HT_ HW_ hHeld ?_
              refine ta 4 (some 98) (bs 19 14591) HT_ HW_ hHeld ?_
              refine ta 10 (some 104) (bs 19 15615) HT_ HW_ hHeld ?_
              refine join_ (σ := Nat) 1 (bT 19 18) (fun s_ => [(102, .agg #[.int .i64 t563, .int .i64 t564]), (103, .agg #[.int .i64 t565, .int .i64 t566]), (108, .agg #[.int .i64 t567, .int .i64 t568]), (109, .agg #[.int .i64 t569, .int .i64 t570]), (19, .pointer (some ⟨s_, 0, none⟩)), (110, .agg #[.int .i64 ((rd_T44 l2 x52_2).f0.f0), .int .i64 ((rd_T44 l2 x52_2).f0.f1), .int .i64 ((rd_T44 l2 x52_2).f0.f2), .int .i64 ((rd_T44 l2 x52_2).f0.f3), .int .i64 t569, .int .i64 t570])]) (fun s_ w' => (w'.cell? ⟨gb559, 0, none⟩ = some (.int .i64 ((rd_T44 l2 x52_2).f0.f0)) ∧ w'.cell? ⟨gb559, 1, none⟩ = some (.int .i64 ((rd_T44 l2 x52_2).f0.f1)) ∧ w'.cell? ⟨gb559, 2, none⟩ = some (.int .i64 ((rd_T44 l2 x52_2).f0.f2)) ∧ w'.cell? ⟨gb559, 3, none⟩ = some (.int .i64 ((rd_T44 l2 x52_2).f0.f3)) ∧ w'.cell? ⟨gb559, 4, none⟩ = some (.int .i64 ((rd_T44 l2 x52_2).f1.f0)) ∧ w'.cell? ⟨gb559, 5, none⟩ = some (.int .i64 ((rd_T44 l2 x52_2).f1.f1)) ∧ w'.cell? ⟨gb553, 0, none⟩ = some (.int .i64 t549) ∧ w'.cell? ⟨gb553, 1, none⟩ = some (.int .i64 t550) ∧ w'.cell? ⟨gb554, 0, none⟩ = some (.int .i64 t551) ∧ w'.cell? ⟨gb554, 1, none⟩ = some (.int .i64 t552)) ∧ (mapVe.MS w' gbM x13_4) ∧ (Kd.V k44 44 w' w.heap.size (fun k_ => (P2_ k_ ∨ w.heap.size ≤ k_) ∧ k_ ≠ gbM ∧ k_ ≠ gb544 ∧ k_ ≠ gb553 ∧ k_ ≠ gb554 ∧ k_ ≠ gb559 ∧ k_ ≠ gb562 ∧ k_ ≠ s_) (.slice (some ad558) l2.length c2) l2) ∧ (w'.heap[gb544]? = some (.cells #[.int .i64 a1_0, .int .i64 a1_1, .int .i64 a1_2] 28 (0, 0))) ∧ (w'.heap[gb553]? = some (.cells #[.int .i64 t549, .int .i64 t550] 42 (0, 0))) ∧ (w'.heap[gb554]? = some (.cells #[.int .i64 t551, .int .i64 t552] 42 (0, 0))) ∧ (w'.heap[gb559]? = some (.cells #[.int .i64 ((rd_T44 l2 x52_2).f0.f0), .int .i64 ((rd_T44 l2 x52_2).f0.f1), .int .i64 ((rd_T44 l2 x52_2).f0.f2), .int .i64 ((rd_T44 l2 x52_2).f0.f3), .int .i64 ((rd_T44 l2 x52_2).f1.f0), .int .i64 ((rd_T44 l2 x52_2).f1.f1)] 44 (0, 0))) ∧ (w'.heap[gb562]? = some (.cells #[.int .i64 (wrap64 ((wrap64 ((wrap64 (2 - ((rd_T44 l2 x52_2).f0.f0))) - ((rd_T44 l2 x52_2).f0.f3))) * a1_0)), .int .i64 (wrap64 ((wrap64 ((wrap64 (2 - ((rd_T44 l2 x52_2).f0.f0))) - ((rd_T44 l2 x52_2).f0.f3))) * a1_1)), .int .i64 (wrap64 ((wrap64 ((wrap64 (2 - ((rd_T44 l2 x52_2).f0.f0))) - ((rd_T44 l2 x52_2).f0.f3))) * a1_2))] 28 (0, 0))) ∧ (w'.heap[s_]? = some (.cells #[.int .i64 0, .int .i64 0, .int .i64 0, .int .i64 0, .int .i64 0, .int .i64 0] 44 (0, 0))) ∧ (w.heap.size ≤ s_) ∧ (w.heap.size ≤ s_) ∧ (gb544 ≠ s_) ∧ (s_ ≠ gb544) ∧ (gb553 ≠ s_) ∧ (s_ ≠ gb553) ∧ (gb554 ≠ s_) ∧ (s_ ≠ gb554) ∧ (gb559 ≠ s_) ∧ (s_ ≠ gb559) ∧ (gb562 ≠ s_) ∧ (s_ ≠ gb562) ∧ (Below w.heap.size w w')) ?_ ?_
              rotate_left
              ·intro hJ8_9_14_15_17
               refine join_ (σ := Unit) 2 (bT 19 17) (fun s_ => [(102, .agg #[.int .i64 t563, .int .i64 t564]), (103, .agg #[.int .i64 t565, .int .i64 t566]), (108, .agg #[.int .i64 t567, .int .i64 t568]), (109, .agg #[.int .i64 t569, .int .i64 t570]), (110, .agg #[.int .i64 ((rd_T44 l2 x52_2).f0.f0), .int .i64 ((rd_T44 l2 x52_2).f0.f1), .int .i64 ((rd_T44 l2 x52_2).f0.f2), .int .i64 ((rd_T44 l2 x52_2).f0.f3), .int .i64 t569, .int .i64 t570])]) (fun s_ w' => (w'.cell? ⟨gb559, 0, none⟩ = some (.int .i64 ((rd_T44 l2 x52_2).f0.f0)) ∧ w'.cell? ⟨gb559, 1, none⟩ = some (.int .i64 ((rd_T44 l2 x52_2).f0.f1)) ∧ w'.cell? ⟨gb559, 2, none⟩ = some (.int .i64 ((rd_T44 l2 x52_2).f0.f2)) ∧ w'.cell? ⟨gb559, 3, none⟩ = some (.int .i64 ((rd_T44 l2 x52_2).f0.f3)) ∧ w'.cell? ⟨gb559, 4, none⟩ = some (.int .i64 ((rd_T44 l2 x52_2).f1.f0)) ∧ w'.cell? ⟨gb559, 5, none⟩ = some (.int .i64 ((rd_T44 l2 x52_2).f1.f1)) ∧ w'.cell? ⟨gb553, 0, none⟩ = some (.int .i64 t549) ∧ w'.cell? ⟨gb553, 1, none⟩ = some (.int .i64 t550) ∧ w'.cell? ⟨gb554, 0, none⟩ = some (.int .i64 t551) ∧ w'.cell? ⟨gb554, 1, none⟩ = some (.int .i64 t552)) ∧ (mapVe.MS w' gbM x13_4) ∧ (Kd.V k44 44 w' w.heap.size (fun k_ => (P2_ k_ ∨ w.heap.size ≤ k_) ∧ k_ ≠ gbM ∧ k_ ≠ gb544 ∧ k_ ≠ gb553 ∧ k_ ≠ gb554 ∧ k_ ≠ gb559 ∧ k_ ≠ gb562) (.slice (some ad558) l2.length c2) l2) ∧ (w'.heap[gb544]? = some (.cells #[.int .i64 a1_0, .int .i64 a1_1, .int .i64 a1_2] 28 (0, 0))) ∧ (w'.heap[gb553]? = some (.cells #[.int .i64 t549, .int .i64 t550] 42 (0, 0))) ∧ (w'.heap[gb554]? = some (.cells #[.int .i64 t551, .int .i64 t552] 42 (0, 0))) ∧ (w'.heap[gb559]? = some (.cells #[.int .i64 ((rd_T44 l2 x52_2).f0.f0), .int .i64 ((rd_T44 l2 x52_2).f0.f1), .int .i64 ((rd_T44 l2 x52_2).f0.f2), .int .i64 ((rd_T44 l2 x52_2).f0.f3), .int .i64 ((rd_T44 l2 x52_2).f1.f0), .int .i64 ((rd_T44 l2 x52_2).f1.f1)] 44 (0, 0))) ∧ (w'.heap[gb562]? = some (.cells #[.int .i64 (wrap64 ((wrap64 ((wrap64 (2 - ((rd_T44 l2 x52_2).f0.f0))) - ((rd_T44 l2 x52_2).f0.f3))) * a1_0)), .int .i64 (wrap64 ((wrap64 ((wrap64 (2 - ((rd_T44 l2 x52_2).f0.f0))) - ((rd_T44 l2 x52_2).f0.f3))) * a1_1)), .int .i64 (wrap64 ((wrap64 ((wrap64 (2 - ((rd_T44 l2 x52_2).f0.f0))) - ((rd_T44 l2 x52_2).f0.f3))) * a1_2))] 28 (0, 0))) ∧ (Below w.heap.size w w')) ?_ ?_
               rotate_left
               ·intro hJ8_9_14_15
                refine join_ (σ := Nat) 3 #[true, true, true, true, true, true, true, true, true, true, true, true, true, true, true, false, false, true, false] (fun s_ => [(102, .agg #[.int .i64 t563, .int .i64 t564]), (103, .agg #[.int .i64 t565, .int .i64 t566]), (108, .agg #[.int .i64 t567, .int .i64 t568]), (19, .pointer (some ⟨s_, 0, none⟩))]) (fun s_ w' => (w'.cell? ⟨gb559, 0, none⟩ = some (.int .i64 ((rd_T44 l2 x52_2).f0.f0)) ∧ w'.cell? ⟨gb559, 1, none⟩ = some (.int .i64 ((rd_T44 l2 x52_2).f0.f1)) ∧ w'.cell? ⟨gb559, 2, none⟩ = some (.int .i64 ((rd_T44 l2 x52_2).f0.f2)) ∧ w'.cell? ⟨gb559, 3, none⟩ = some (.int .i64 ((rd_T44 l2 x52_2).f0.f3)) ∧ w'.cell? ⟨gb559, 4, none⟩ = some (.int .i64 ((rd_T44 l2 x52_2).f1.f0)) ∧ w'.cell? ⟨gb559, 5, none⟩ = some (.int .i64 ((rd_T44 l2 x52_2).f1.f1)) ∧ w'.cell? ⟨gb553, 0, none⟩ = some (.int .i64 t549) ∧ w'.cell? ⟨gb553, 1, none⟩ = some (.int .i64 t550) ∧ w'.cell? ⟨gb554, 0, none⟩ = some (.int .i64 t551) ∧ w'.cell? ⟨gb554, 1, none⟩ = some (.int .i64 t552)) ∧ (mapVe.MS w' gbM x13_4) ∧ (Kd.V k44 44 w' w.heap.size (fun k_ => (P2_ k_ ∨ w.heap.size ≤ k_) ∧ k_ ≠ gbM ∧ k_ ≠ gb544 ∧ k_ ≠ gb553 ∧ k_ ≠ gb554 ∧ k_ ≠ gb559 ∧ k_ ≠ gb562 ∧ k_ ≠ s_) (.slice (some ad558) l2.length c2) l2) ∧ (w'.heap[gb544]? = some (.cells #[.int .i64 a1_0, .int .i64 a1_1, .int .i64 a1_2] 28 (0, 0))) ∧ (w'.heap[gb553]? = some (.cells #[.int .i64 t549, .int .i64 t550] 42 (0, 0))) ∧ (w'.heap[gb554]? = some (.cells #[.int .i64 t551, .int .i64 t552] 42 (0, 0))) ∧ (w'.heap[gb559]? = some (.cells #[.int .i64 ((rd_T44 l2 x52_2).f0.f0), .int .i64 ((rd_T44 l2 x52_2).f0.f1), .int .i64 ((rd_T44 l2 x52_2).f0.f2), .int .i64 ((rd_T44 l2 x52_2).f0.f3), .int .i64 ((rd_T44 l2 x52_2).f1.f0), .int .i64 ((rd_T44 l2 x52_2).f1.f1)] 44 (0, 0))) ∧ (w'.heap[gb562]? = some (.cells #[.int .i64 (wrap64 ((wrap64 ((wrap64 (2 - ((rd_T44 l2 x52_2).f0.f0))) - ((rd_T44 l2 x52_2).f0.f3))) * a1_0)), .int .i64 (wrap64 ((wrap64 ((wrap64 (2 - ((rd_T44 l2 x52_2).f0.f0))) - ((rd_T44 l2 x52_2).f0.f3))) * a1_1)), .int .i64 (wrap64 ((wrap64 ((wrap64 (2 - ((rd_T44 l2 x52_2).f0.f0))) - ((rd_T44 l2 x52_2).f0.f3))) * a1_2))] 28 (0, 0))) ∧ (w'.heap[s_]? = some (.cells #[.int .i64 0, .int .i64 0, .int .i64 0, .int .i64 0, .int .i64 0, .int .i64 0] 44 (0, 0))) ∧ (w.heap.size ≤ s_) ∧ (w.heap.size ≤ s_) ∧ (gb544 ≠ s_) ∧ (s_ ≠ gb544) ∧ (gb553 ≠ s_) ∧ (s_ ≠ gb553) ∧ (gb554 ≠ s_) ∧ (s_ ≠ gb554) ∧ (gb559 ≠ s_) ∧ (s_ ≠ gb559) ∧ (gb562 ≠ s_) ∧ (s_ ≠ gb562) ∧ (Below w.heap.size w w')) ?_ ?_
                rotate_left
                ·intro hJ8_9_14_17
                 refine join_ (σ := Unit) 4 (bT 19 15) (fun s_ => [(102, .agg #[.int .i64 t563, .int .i64 t564]), (103, .agg #[.int .i64 t565, .int .i64 t566]), (108, .agg #[.int .i64 t567, .int .i64 t568])]) (fun s_ w' => (w'.cell? ⟨gb559, 0, none⟩ = some (.int .i64 ((rd_T44 l2 x52_2).f0.f0)) ∧ w'.cell? ⟨gb559, 1, none⟩ = some (.int .i64 ((rd_T44 l2 x52_2).f0.f1)) ∧ w'.cell? ⟨gb559, 2, none⟩ = some (.int .i64 ((rd_T44 l2 x52_2).f0.f2)) ∧ w'.cell? ⟨gb559, 3, none⟩ = some (.int .i64 ((rd_T44 l2 x52_2).f0.f3)) ∧ w'.cell? ⟨gb559, 4, none⟩ = some (.int .i64 ((rd_T44 l2 x52_2).f1.f0)) ∧ w'.cell? ⟨gb559, 5, none⟩ = some (.int .i64 ((rd_T44 l2 x52_2).f1.f1)) ∧ w'.cell? ⟨gb553, 0, none⟩ = some (.int .i64 t549) ∧ w'.cell? ⟨gb553, 1, none⟩ = some (.int .i64 t550) ∧ w'.cell? ⟨gb554, 0, none⟩ = some (.int .i64 t551) ∧ w'.cell? ⟨gb554, 1, none⟩ = some (.int .i64 t552)) ∧ (mapVe.MS w' gbM x13_4) ∧ (Kd.V k44 44 w' w.heap.size (fun k_ => (P2_ k_ ∨ w.heap.size ≤ k_) ∧ k_ ≠ gbM ∧ k_ ≠ gb544 ∧ k_ ≠ gb553 ∧ k_ ≠ gb554 ∧ k_ ≠ gb559 ∧ k_ ≠ gb562) (.slice (some ad558) l2.length c2) l2) ∧ (w'.heap[gb544]? = some (.cells #[.int .i64 a1_0, .int .i64 a1_1, .int .i64 a1_2] 28 (0, 0))) ∧ (w'.heap[gb553]? = some (.cells #[.int .i64 t549, .int .i64 t550] 42 (0, 0))) ∧ (w'.heap[gb554]? = some (.cells #[.int .i64 t551, .int .i64 t552] 42 (0, 0))) ∧ (w'.heap[gb559]? = some (.cells #[.int .i64 ((rd_T44 l2 x52_2).f0.f0), .int .i64 ((rd_T44 l2 x52_2).f0.f1), .int .i64 ((rd_T44 l2 x52_2).f0.f2), .int .i64 ((rd_T44 l2 x52_2).f0.f3), .int .i64 ((rd_T44 l2 x52_2).f1.f0), .int .i64 ((rd_T44 l2 x52_2).f1.f1)] 44 (0, 0))) ∧ (w'.heap[gb562]? = some (.cells #[.int .i64 (wrap64 ((wrap64 ((wrap64 (2 - ((rd_T44 l2 x52_2).f0.f0))) - ((rd_T44 l2 x52_2).f0.f3))) * a1_0)), .int .i64 (wrap64 ((wrap64 ((wrap64 (2 - ((rd_T44 l2 x52_2).f0.f0))) - ((rd_T44 l2 x52_2).f0.f3))) * a1_1)), .int .i64 (wrap64 ((wrap64 ((wrap64 (2 - ((rd_T44 l2 x52_2).f0.f0))) - ((rd_T44 l2 x52_2).f0.f3))) * a1_2))] 28 (0, 0))) ∧ (Below w.heap.size w w')) ?_ ?_
                 rotate_left
                 ·intro hJ8_9_14
                  refine join_ (σ := Nat) 4 #[true, true, true, true, true, true, true, true, true, true, true, true, true, true, false, false, false, true, false] (fun s_ => [(102, .agg #[.int .i64 t563, .int .i64 t564]), (103, .agg #[.int .i64 t565, .int .i64 t566]), (19, .pointer (some ⟨s_, 0, none⟩))]) (fun s_ w' => (w'.cell? ⟨gb559, 0, none⟩ = some (.int .i64 ((rd_T44 l2 x52_2).f0.f0)) ∧ w'.cell? ⟨gb559, 1, none⟩ = some (.int .i64 ((rd_T44 l2 x52_2).f0.f1)) ∧ w'.cell? ⟨gb559, 2, none⟩ = some (.int .i64 ((rd_T44 l2 x52_2).f0.f2)) ∧ w'.cell? ⟨gb559, 3, none⟩ = some (.int .i64 ((rd_T44 l2 x52_2).f0.f3)) ∧ w'.cell? ⟨gb559, 4, none⟩ = some (.int .i64 ((rd_T44 l2 x52_2).f1.f0)) ∧ w'.cell? ⟨gb559, 5, none⟩ = some (.int .i64 ((rd_T44 l2 x52_2).f1.f1)) ∧ w'.cell? ⟨gb553, 0, none⟩ = some (.int .i64 t549) ∧ w'.cell? ⟨gb553, 1, none⟩ = some (.int .i64 t550) ∧ w'.cell? ⟨gb554, 0, none⟩ = some (.int .i64 t551) ∧ w'.cell? ⟨gb554, 1, none⟩ = some (.int .i64 t552)) ∧ (mapVe.MS w' gbM x13_4) ∧ (Kd.V k44 44 w' w.heap.size (fun k_ => (P2_ k_ ∨ w.heap.size ≤ k_) ∧ k_ ≠ gbM ∧ k_ ≠ gb544 ∧ k_ ≠ gb553 ∧ k_ ≠ gb554 ∧ k_ ≠ gb559 ∧ k_ ≠ gb562 ∧ k_ ≠ s_) (.slice (some ad558) l2.length c2) l2) ∧ (w'.heap[gb544]? = some (.cells #[.int .i64 a1_0, .int .i64 a1_1, .int .i64 a1_2] 28 (0, 0))) ∧ (w'.heap[gb553]? = some (.cells #[.int .i64 t549, .int .i64 t550] 42 (0, 0))) ∧ (w'.heap[gb554]? = some (.cells #[.int .i64 t551, .int .i64 t552] 42 (0, 0))) ∧ (w'.heap[gb559]? = some (.cells #[.int .i64 ((rd_T44 l2 x52_2).f0.f0), .int .i64 ((rd_T44 l2 x52_2).f0.f1), .int .i64 ((rd_T44 l2 x52_2).f0.f2), .int .i64 ((rd_T44 l2 x52_2).f0.f3), .int .i64 ((rd_T44 l2 x52_2).f1.f0), .int .i64 ((rd_T44 l2 x52_2).f1.f1)] 44 (0, 0))) ∧ (w'.heap[gb562]? = some (.cells #[.int .i64 (wrap64 ((wrap64 ((wrap64 (2 - ((rd_T44 l2 x52_2).f0.f0))) - ((rd_T44 l2 x52_2).f0.f3))) * a1_0)), .int .i64 (wrap64 ((wrap64 ((wrap64 (2 - ((rd_T44 l2 x52_2).f0.f0))) - ((rd_T44 l2 x52_2).f0.f3))) * a1_1)), .int .i64 (wrap64 ((wrap64 ((wrap64 (2 - ((rd_T44 l2 x52_2).f0.f0))) - ((rd_T44 l2 x52_2).f0.f3))) * a1_2))] 28 (0, 0))) ∧ (w'.heap[s_]? = some (.cells #[.int .i64 0, .int .i64 0, .int .i64 0, .int .i64 0, .int .i64 0, .int .i64 0] 44 (0, 0))) ∧ (w.heap.size ≤ s_) ∧ (w.heap.size ≤ s_) ∧ (gb544 ≠ s_) ∧ (s_ ≠ gb544) ∧ (gb553 ≠ s_) ∧ (s_ ≠ gb553) ∧ (gb554 ≠ s_) ∧ (s_ ≠ gb554) ∧ (gb559 ≠ s_) ∧ (s_ ≠ gb559) ∧ (gb562 ≠ s_) ∧ (s_ ≠ gb562) ∧ (Below w.heap.size w w')) ?_ ?_
                  rotate_left
                  ·intro hJ8_9_17
                   refine join_ (σ := Unit) 5 (bT 19 14) (fun s_ => [(102, .agg #[.int .i64 t563, .int .i64 t564]), (103, .agg #[.int .i64 t565, .int .i64 t566])]) (fun s_ w' => (w'.cell? ⟨gb559, 0, none⟩ = some (.int .i64 ((rd_T44 l2 x52_2).f0.f0)) ∧ w'.cell? ⟨gb559, 1, none⟩ = some (.int .i64 ((rd_T44 l2 x52_2).f0.f1)) ∧ w'.cell? ⟨gb559, 2, none⟩ = some (.int .i64 ((rd_T44 l2 x52_2).f0.f2)) ∧ w'.cell? ⟨gb559, 3, none⟩ = some (.int .i64 ((rd_T44 l2 x52_2).f0.f3)) ∧ w'.cell? ⟨gb559, 4, none⟩ = some (.int .i64 ((rd_T44 l2 x52_2).f1.f0)) ∧ w'.cell? ⟨gb559, 5, none⟩ = some (.int .i64 ((rd_T44 l2 x52_2).f1.f1)) ∧ w'.cell? ⟨gb553, 0, none⟩ = some (.int .i64 t549) ∧ w'.cell? ⟨gb553, 1, none⟩ = some (.int .i64 t550) ∧ w'.cell? ⟨gb554, 0, none⟩ = some (.int .i64 t551) ∧ w'.cell? ⟨gb554, 1, none⟩ = some (.int .i64 t552)) ∧ (mapVe.MS w' gbM x13_4) ∧ (Kd.V k44 44 w' w.heap.size (fun k_ => (P2_ k_ ∨ w.heap.size ≤ k_) ∧ k_ ≠ gbM ∧ k_ ≠ gb544 ∧ k_ ≠ gb553 ∧ k_ ≠ gb554 ∧ k_ ≠ gb559 ∧ k_ ≠ gb562) (.slice (some ad558) l2.length c2) l2) ∧ (w'.heap[gb544]? = some (.cells #[.int .i64 a1_0, .int .i64 a1_1, .int .i64 a1_2] 28 (0, 0))) ∧ (w'.heap[gb553]? = some (.cells #[.int .i64 t549, .int .i64 t550] 42 (0, 0))) ∧ (w'.heap[gb554]? = some (.cells #[.int .i64 t551, .int .i64 t552] 42 (0, 0))) ∧ (w'.heap[gb559]? = some (.cells #[.int .i64 ((rd_T44 l2 x52_2).f0.f0), .int .i64 ((rd_T44 l2 x52_2).f0.f1), .int .i64 ((rd_T44 l2 x52_2).f0.f2), .int .i64 ((rd_T44 l2 x52_2).f0.f3), .int .i64 ((rd_T44 l2 x52_2).f1.f0), .int .i64 ((rd_T44 l2 x52_2).f1.f1)] 44 (0, 0))) ∧ (w'.heap[gb562]? = some (.cells #[.int .i64 (wrap64 ((wrap64 ((wrap64 (2 - ((rd_T44 l2 x52_2).f0.f0))) - ((rd_T44 l2 x52_2).f0.f3))) * a1_0)), .int .i64 (wrap64 ((wrap64 ((wrap64 (2 - ((rd_T44 l2 x52_2).f0.f0))) - ((rd_T44 l2 x52_2).f0.f3))) * a1_1)), .int .i64 (wrap64 ((wrap64 ((wrap64 (2 - ((rd_T44 l2 x52_2).f0.f0))) - ((rd_T44 l2 x52_2).f0.f3))) * a1_2))] 28 (0, 0))) ∧ (Below w.heap.size w w')) ?_ ?_
                   rotate_left
                   ·intro hJ8_9
                    refine join_ (σ := Nat) 5 #[true, true, true, true, true, true, true, true, true, false, true, true, true, true, false, false, false, true, false] (fun s_ => [(102, .agg #[.int .i64 t563, .int .i64 t564]), (19, .pointer (some ⟨s_, 0, none⟩))]) (fun s_ w' => (w'.cell? ⟨gb559, 0, none⟩ = some (.int .i64 ((rd_T44 l2 x52_2).f0.f0)) ∧ w'.cell? ⟨gb559, 1, none⟩ = some (.int .i64 ((rd_T44 l2 x52_2).f0.f1)) ∧ w'.cell? ⟨gb559, 2, none⟩ = some (.int .i64 ((rd_T44 l2 x52_2).f0.f2)) ∧ w'.cell? ⟨gb559, 3, none⟩ = some (.int .i64 ((rd_T44 l2 x52_2).f0.f3)) ∧ w'.cell? ⟨gb559, 4, none⟩ = some (.int .i64 ((rd_T44 l2 x52_2).f1.f0)) ∧ w'.cell? ⟨gb559, 5, none⟩ = some (.int .i64 ((rd_T44 l2 x52_2).f1.f1)) ∧ w'.cell? ⟨gb553, 0, none⟩ = some (.int .i64 t549) ∧ w'.cell? ⟨gb553, 1, none⟩ = some (.int .i64 t550) ∧ w'.cell? ⟨gb554, 0, none⟩ = some (.int .i64 t551) ∧ w'.cell? ⟨gb554, 1, none⟩ = some (.int .i64 t552)) ∧ (mapVe.MS w' gbM x13_4) ∧ (Kd.V k44 44 w' w.heap.size (fun k_ => (P2_ k_ ∨ w.heap.size ≤ k_) ∧ k_ ≠ gbM ∧ k_ ≠ gb544 ∧ k_ ≠ gb553 ∧ k_ ≠ gb554 ∧ k_ ≠ gb559 ∧ k_ ≠ gb562 ∧ k_ ≠ s_) (.slice (some ad558) l2.length c2) l2) ∧ (w'.heap[gb544]? = some (.cells #[.int .i64 a1_0, .int .i64 a1_1, .int .i64 a1_2] 28 (0, 0))) ∧ (w'.heap[gb553]? = some (.cells #[.int .i64 t549, .int .i64 t550] 42 (0, 0))) ∧ (w'.heap[gb554]? = some (.cells #[.int .i64 t551, .int .i64 t552] 42 (0, 0))) ∧ (w'.heap[gb559]? = some (.cells #[.int .i64 ((rd_T44 l2 x52_2).f0.f0), .int .i64 ((rd_T44 l2 x52_2).f0.f1), .int .i64 ((rd_T44 l2 x52_2).f0.f2), .int .i64 ((rd_T44 l2 x52_2).f0.f3), .int .i64 ((rd_T44 l2 x52_2).f1.f0), .int .i64 ((rd_T44 l2 x52_2).f1.f1)] 44 (0, 0))) ∧ (w'.heap[gb562]? = some (.cells #[.int .i64 (wrap64 ((wrap64 ((wrap64 (2 - ((rd_T44 l2 x52_2).f0.f0))) - ((rd_T44 l2 x52_2).f0.f3))) * a1_0)), .int .i64 (wrap64 ((wrap64 ((wrap64 (2 - ((rd_T44 l2 x52_2).f0.f0))) - ((rd_T44 l2 x52_2).f0.f3))) * a1_1)), .int .i64 (wrap64 ((wrap64 ((wrap64 (2 - ((rd_T44 l2 x52_2).f0.f0))) - ((rd_T44 l2 x52_2).f0.f3))) * a1_2))] 28 (0, 0))) ∧ (w'.heap[s_]? = some (.cells #[.int .i64 0, .int .i64 0, .int .i64 0, .int .i64 0, .int .i64 0, .int .i64 0] 44 (0, 0))) ∧ (w.heap.size ≤ s_) ∧ (w.heap.size ≤ s_) ∧ (gb544 ≠ s_) ∧ (s_ ≠ gb544) ∧ (gb553 ≠ s_) ∧ (s_ ≠ gb553) ∧ (gb554 ≠ s_) ∧ (s_ ≠ gb554) ∧ (gb559 ≠ s_) ∧ (s_ ≠ gb559) ∧ (gb562 ≠ s_) ∧ (s_ ≠ gb562) ∧ (Below w.heap.size w w')) ?_ ?_
                    rotate_left
                    ·intro hJ8_17
                     refine join_ (σ := Unit) 6 #[true, true, true, true, true, true, true, true, true, false, true, true, true, true, false, false, false, false, false] (fun s_ => [(102, .agg #[.int .i64 t563, .int .i64 t564])]) (fun s_ w' => (w'.cell? ⟨gb559, 0, none⟩ = some (.int .i64 ((rd_T44 l2 x52_2).f0.f0)) ∧ w'.cell? ⟨gb559, 1, none⟩ = some (.int .i64 ((rd_T44 l2 x52_2).f0.f1)) ∧ w'.cell? ⟨gb559, 2, none⟩ = some (.int .i64 ((rd_T44 l2 x52_2).f0.f2)) ∧ w'.cell? ⟨gb559, 3, none⟩ = some (.int .i64 ((rd_T44 l2 x52_2).f0.f3)) ∧ w'.cell? ⟨gb559, 4, none⟩ = some (.int .i64 ((rd_T44 l2 x52_2).f1.f0)) ∧ w'.cell? ⟨gb559, 5, none⟩ = some (.int .i64 ((rd_T44 l2 x52_2).f1.f1)) ∧ w'.cell? ⟨gb553, 0, none⟩ = some (.int .i64 t549) ∧ w'.cell? ⟨gb553, 1, none⟩ = some (.int .i64 t550) ∧ w'.cell? ⟨gb554, 0, none⟩ = some (.int .i64 t551) ∧ w'.cell? ⟨gb554, 1, none⟩ = some (.int .i64 t552)) ∧ (mapVe.MS w' gbM x13_4) ∧ (Kd.V k44 44 w' w.heap.size (fun k_ => (P2_ k_ ∨ w.heap.size ≤ k_) ∧ k_ ≠ gbM ∧ k_ ≠ gb544 ∧ k_ ≠ gb553 ∧ k_ ≠ gb554 ∧ k_ ≠ gb559 ∧ k_ ≠ gb562) (.slice (some ad558) l2.length c2) l2) ∧ (w'.heap[gb544]? = some (.cells #[.int .i64 a1_0, .int .i64 a1_1, .int .i64 a1_2] 28 (0, 0))) ∧ (w'.heap[gb553]? = some (.cells #[.int .i64 t549, .int .i64 t550] 42 (0, 0))) ∧ (w'.heap[gb554]? = some (.cells #[.int .i64 t551, .int .i64 t552] 42 (0, 0))) ∧ (w'.heap[gb559]? = some (.cells #[.int .i64 ((rd_T44 l2 x52_2).f0.f0), .int .i64 ((rd_T44 l2 x52_2).f0.f1), .int .i64 ((rd_T44 l2 x52_2).f0.f2), .int .i64 ((rd_T44 l2 x52_2).f0.f3), .int .i64 ((rd_T44 l2 x52_2).f1.f0), .int .i64 ((rd_T44 l2 x52_2).f1.f1)] 44 (0, 0))) ∧ (w'.heap[gb562]? = some (.cells #[.int .i64 (wrap64 ((wrap64 ((wrap64 (2 - ((rd_T44 l2 x52_2).f0.f0))) - ((rd_T44 l2 x52_2).f0.f3))) * a1_0)), .int .i64 (wrap64 ((wrap64 ((wrap64 (2 - ((rd_T44 l2 x52_2).f0.f0))) - ((rd_T44 l2 x52_2).f0.f3))) * a1_1)), .int .i64 (wrap64 ((wrap64 ((wrap64 (2 - ((rd_T44 l2 x52_2).f0.f0))) - ((rd_T44 l2 x52_2).f0.f3))) * a1_2))] 28 (0, 0))) ∧ (Below w.heap.size w w')) ?_ ?_
                     rotate_left
                     ·intro hJ8
                      refine join_ (σ := Nat) 6 #[true, true, true, true, true, true, true, true, false, false, true, true, true, true, false, false, false, true, false] (fun s_ => [(19, .pointer (some ⟨s_, 0, none⟩))]) (fun s_ w' => (w'.cell? ⟨gb559, 0, none⟩ = some (.int .i64 ((rd_T44 l2 x52_2).f0.f0)) ∧ w'.cell? ⟨gb559, 1, none⟩ = some (.int .i64 ((rd_T44 l2 x52_2).f0.f1)) ∧ w'.cell? ⟨gb559, 2, none⟩ = some (.int .i64 ((rd_T44 l2 x52_2).f0.f2)) ∧ w'.cell? ⟨gb559, 3, none⟩ = some (.int .i64 ((rd_T44 l2 x52_2).f0.f3)) ∧ w'.cell? ⟨gb559, 4, none⟩ = some (.int .i64 ((rd_T44 l2 x52_2).f1.f0)) ∧ w'.cell? ⟨gb559, 5, none⟩ = some (.int .i64 ((rd_T44 l2 x52_2).f1.f1)) ∧ w'.cell? ⟨gb553, 0, none⟩ = some (.int .i64 t549) ∧ w'.cell? ⟨gb553, 1, none⟩ = some (.int .i64 t550) ∧ w'.cell? ⟨gb554, 0, none⟩ = some (.int .i64 t551) ∧ w'.cell? ⟨gb554, 1, none⟩ = some (.int .i64 t552)) ∧ (mapVe.MS w' gbM x13_4) ∧ (Kd.V k44 44 w' w.heap.size (fun k_ => (P2_ k_ ∨ w.heap.size ≤ k_) ∧ k_ ≠ gbM ∧ k_ ≠ gb544 ∧ k_ ≠ gb553 ∧ k_ ≠ gb554 ∧ k_ ≠ gb559 ∧ k_ ≠ gb562 ∧ k_ ≠ s_) (.slice (some ad558) l2.length c2) l2) ∧ (w'.heap[gb544]? = some (.cells #[.int .i64 a1_0, .int .i64 a1_1, .int .i64 a1_2] 28 (0, 0))) ∧ (w'.heap[gb553]? = some (.cells #[.int .i64 t549, .int .i64 t550] 42 (0, 0))) ∧ (w'.heap[gb554]? = some (.cells #[.int .i64 t551, .int .i64 t552] 42 (0, 0))) ∧ (w'.heap[gb559]? = some (.cells #[.int .i64 ((rd_T44 l2 x52_2).f0.f0), .int .i64 ((rd_T44 l2 x52_2).f0.f1), .int .i64 ((rd_T44 l2 x52_2).f0.f2), .int .i64 ((rd_T44 l2 x52_2).f0.f3), .int .i64 ((rd_T44 l2 x52_2).f1.f0), .int .i64 ((rd_T44 l2 x52_2).f1.f1)] 44 (0, 0))) ∧ (w'.heap[gb562]? = some (.cells #[.int .i64 (wrap64 ((wrap64 ((wrap64 (2 - ((rd_T44 l2 x52_2).f0.f0))) - ((rd_T44 l2 x52_2).f0.f3))) * a1_0)), .int .i64 (wrap64 ((wrap64 ((wrap64 (2 - ((rd_T44 l2 x52_2).f0.f0))) - ((rd_T44 l2 x52_2).f0.f3))) * a1_1)), .int .i64 (wrap64 ((wrap64 ((wrap64 (2 - ((rd_T44 l2 x52_2).f0.f0))) - ((rd_T44 l2 x52_2).f0.f3))) * a1_2))] 28 (0, 0))) ∧ (w'.heap[s_]? = some (.cells #[.int .i64 0, .int .i64 0, .int .i64 0, .int .i64 0, .int .i64 0, .int .i64 0] 44 (0, 0))) ∧ (w.heap.size ≤ s_) ∧ (w.heap.size ≤ s_) ∧ (gb544 ≠ s_) ∧ (s_ ≠ gb544) ∧ (gb553 ≠ s_) ∧ (s_ ≠ gb553) ∧ (gb554 ≠ s_) ∧ (s_ ≠ gb554) ∧ (gb559 ≠ s_) ∧ (s_ ≠ gb559) ∧ (gb562 ≠ s_) ∧ (s_ ≠ gb562) ∧ (Below w.heap.size w w')) ?_ ?_
                      rotate_left
                      ·intro hJ17
                       refine two_ (i := 8) (j := 17) (Ni := some 102) (Nj := some 19) (bs 19 15871) #[true, true, true, true, true, true, true, true, false, false, true, true, true, true, false, false, false, true, false] rfl rfl rfl rfl (two_of HT_.out (by kernel_rfl)) (by decide) (by decide) (fun K hK => ?_) (fun K hK => ?_)
                       ·skip
                        refine gs Try.func19 #[.agg #[.int .i64 t549, .int .i64 t550], .int .i64 (wrap64 (Int.tdiv x91_4 (wrap64 ((wrap64 (2 - ((rd_T44 l2 x52_2).f0.f0))) - ((rd_T44 l2 x52_2).f0.f3)))))] ?_
                        with_reducible refine (impl_Vec_times.calls _ _ _ _ _ _ A70.out).mono ?_
                        rintro e w80 ⟨rfl, hb⟩
                        refine ⟨_, rfl, ?_⟩
                        replace HO_13 := asd (mapVe.MS_via HO_13.out (by (with_reducible repeat (first | apply mapVe.MS_alloc | apply mapVe.MS_drewN | apply mapVe.MS_drew)); exact HO_13.out) hb)
                        replace HO_50 := asd (Kd.V_below (by (with_reducible repeat (first | apply Kd.V_alloc | apply Kd.V_drewN | apply Kd.V_drew)); exact HO_50.out) hb)
                        replace BK544 := bB BK544 hb
                        replace BK553 := bB BK553 hb
                        replace BK554 := bB BK554 hb
                        replace BK559 := bB BK559 hb
                        replace BK562 := bB BK562 hb
                        replace HB := asd (below_step (by repeat (first | (with_reducible first | exact HB.out | apply below_alloc | apply pw_below_drewN | apply below_drew1 | refine below_set ?_ GE544.out | refine below_set ?_ GE553.out | refine below_set ?_ GE554.out | refine below_set ?_ GE559.out | refine below_set ?_ GE562.out) | exact HB.out)) hb)
                        (try clear hb)
                        (try clear hb2)
                        (try clear hk)
                        (try clear hi)
                        refine hK.out _ _ (cb6 BK559 (cb2 BK553 (eb2 BK554))).out (fun hHeld => ?_)
                        clear hK K
                        refine norm_ (a' := ?_) ?_ ?_
                        rotate_left
                        ·show Act.put _ (some 102) _ = _
                         simp only [Act.put, sA, sB, sC, i64_w, i32_w]
                         rfl
                        exact norm_ (by first | (simp only [putAll, Act.put, sA, sB, sC]; done) | (simp only [putAll, Act.put, sA, sB, sC]; rfl)) (hJ8 () _ ⟨hHeld, (by (with_reducible repeat (first | apply mapVe.MS_alloc | apply mapVe.MS_drewN | apply mapVe.MS_drew)); exact HO_13.out), (by (with_reducible repeat (first | apply Kd.V_alloc | apply Kd.V_drewN | apply Kd.V_drew)); exact HO_50.out), (bkp BK544), (bkp BK553), (bkp BK554), (bkp BK559), (bkp BK562), (by repeat (first | (with_reducible first | exact HB.out | apply below_alloc | apply pw_below_drewN | apply below_drew1 | refine below_set ?_ GE544.out | refine below_set ?_ GE553.out | refine below_set ?_ GE554.out | refine below_set ?_ GE559.out | refine below_set ?_ GE562.out) | exact HB.out))⟩)
                       ·skip
                        refine box_step ?hg (N := 19) ?hd (cs := #[.int .i64 0, .int .i64 0, .int .i64 0, .int .i64 0, .int .i64 0, .int .i64 0]) (t := 44) ?hr ?_; (case hd => rfl); (case hg => rfl); (case hr => first | (go_simp; done) | (go_simp; rfl))
                        intro gb571 hg w80 hbox hb
                        replace HO_13 := asd (mapVe.MS_via HO_13.out (by (with_reducible repeat (first | apply mapVe.MS_alloc | apply mapVe.MS_drewN | apply mapVe.MS_drew)); exact HO_13.out) hb)
                        replace HO_50 := asd (Kd.V_below (Kd.V_elderB (by (with_reducible repeat (first | apply Kd.V_alloc | apply Kd.V_drewN | apply Kd.V_drew)); exact HO_50.out) gb571 (Nat.le_of_eq hg.symm)) hb)
                        have BK571 := asd (hbox)
                        have GW571 := asd ((by rw [hg]; exact (below_size (by repeat (first | (with_reducible first | exact HB.out | apply below_alloc | apply pw_below_drewN | apply below_drew1 | refine below_set ?_ GE544.out | refine below_set ?_ GE553.out | refine below_set ?_ GE554.out | refine below_set ?_ GE559.out | refine below_set ?_ GE562.out) | exact HB.out))) : w.heap.size ≤ gb571))
                        have GE571 := asd ((by rw [hg]; exact (below_size (by repeat (first | (with_reducible first | exact HB.out | apply below_alloc | apply pw_below_drewN | apply below_drew1 | refine below_set ?_ GE544.out | refine below_set ?_ GE553.out | refine below_set ?_ GE554.out | refine below_set ?_ GE559.out | refine below_set ?_ GE562.out) | exact HB.out))) : w.heap.size ≤ gb571))
                        replace HB := asd (below_step (by repeat (first | (with_reducible first | exact HB.out | apply below_alloc | apply pw_below_drewN | apply below_drew1 | refine below_set ?_ GE544.out | refine below_set ?_ GE553.out | refine below_set ?_ GE554.out | refine below_set ?_ GE559.out | refine below_set ?_ GE562.out) | exact HB.out)) hb)
                        have NB544_571 := nlt hg BK544
                        have NB571_544 := nsy (nlt hg BK544)
                        replace BK544 := bB BK544 hb
                        have NB553_571 := nlt hg BK553
                        have NB571_553 := nsy (nlt hg BK553)
                        replace BK553 := bB BK553 hb
                        have NB554_571 := nlt hg BK554
                        have NB571_554 := nsy (nlt hg BK554)
                        replace BK554 := bB BK554 hb
                        have NB559_571 := nlt hg BK559
                        have NB571_559 := nsy (nlt hg BK559)
                        replace BK559 := bB BK559 hb
                        have NB562_571 := nlt hg BK562
                        have NB571_562 := nsy (nlt hg BK562)
                        replace BK562 := bB BK562 hb
                        clear hb hbox hg
                        refine hK.out _ _ (cb6 BK559 (cb2 BK553 (eb2 BK554))).out (fun hHeld => ?_)
                        clear hK K
                        refine norm_ (a' := ?_) ?_ ?_
                        rotate_left
                        ·show Act.put _ (some 19) _ = _
                         simp only [Act.put, sA, sB, sC, i64_w, i32_w]
                         rfl
                        exact norm_ (by first | (simp only [putAll, Act.put, sA, sB, sC]; done) | (simp only [putAll, Act.put, sA, sB, sC]; rfl)) (hJ17 (gb571) _ ⟨hHeld, (by (with_reducible repeat (first | apply mapVe.MS_alloc | apply mapVe.MS_drewN | apply mapVe.MS_drew)); exact HO_13.out), (by (with_reducible repeat (first | apply Kd.V_alloc | apply Kd.V_drewN | apply Kd.V_drew)); exact Kd.V_mono HO_50.out (fun _ hk => ⟨hk.1.1, ⟨hk.1.2.1, ⟨hk.1.2.2.1, ⟨hk.1.2.2.2.1, ⟨hk.1.2.2.2.2.1, ⟨hk.1.2.2.2.2.2.1, ⟨hk.1.2.2.2.2.2.2, hk.2⟩⟩⟩⟩⟩⟩⟩)), (bkp BK544), (bkp BK553), (bkp BK554), (bkp BK559), (bkp BK562), (bkp BK571), GW571.out, GE571.out, NB544_571.out, NB571_544.out, NB553_571.out, NB571_553.out, NB554_571.out, NB571_554.out, NB559_571.out, NB571_559.out, NB562_571.out, NB571_562.out, (by repeat (first | (with_reducible first | exact HB.out | apply below_alloc | apply pw_below_drewN | apply below_drew1 | refine below_set ?_ GE544.out | refine below_set ?_ GE553.out | refine below_set ?_ GE554.out | refine below_set ?_ GE559.out | refine below_set ?_ GE562.out | refine below_set ?_ GE571.out) | exact HB.out))⟩)
                      ·skip
                       rintro gb571 w81 ⟨hS_, h0_, h1_, h2_, h3_, h4_, h5_, h6_, h7_, h8_, h9_, h10_, h11_, h12_, h13_, h14_, h15_, h16_, h17_, h18_, h19_, h20_⟩
                       have n0_ : Aside0 (mapVe.MS w81 gbM x13_4) := ⟨h0_⟩
                       have n1_ : Aside0 (Kd.V k44 44 w81 w.heap.size (fun k_ => (P2_ k_ ∨ w.heap.size ≤ k_) ∧ k_ ≠ gbM ∧ k_ ≠ gb544 ∧ k_ ≠ gb553 ∧ k_ ≠ gb554 ∧ k_ ≠ gb559 ∧ k_ ≠ gb562 ∧ k_ ≠ gb571) (.slice (some ad558) l2.length c2) l2) := ⟨h1_⟩
                       have n2_ : Aside0 (w81.heap[gb544]? = some (.cells #[.int .i64 a1_0, .int .i64 a1_1, .int .i64 a1_2] 28 (0, 0))) := ⟨h2_⟩
                       have n3_ : Aside0 (w81.heap[gb553]? = some (.cells #[.int .i64 t549, .int .i64 t550] 42 (0, 0))) := ⟨h3_⟩
                       have n4_ : Aside0 (w81.heap[gb554]? = some (.cells #[.int .i64 t551, .int .i64 t552] 42 (0, 0))) := ⟨h4_⟩
                       have n5_ : Aside0 (w81.heap[gb559]? = some (.cells #[.int .i64 ((rd_T44 l2 x52_2).f0.f0), .int .i64 ((rd_T44 l2 x52_2).f0.f1), .int .i64 ((rd_T44 l2 x52_2).f0.f2), .int .i64 ((rd_T44 l2 x52_2).f0.f3), .int .i64 ((rd_T44 l2 x52_2).f1.f0), .int .i64 ((rd_T44 l2 x52_2).f1.f1)] 44 (0, 0))) := ⟨h5_⟩
                       have n6_ : Aside0 (w81.heap[gb562]? = some (.cells #[.int .i64 (wrap64 ((wrap64 ((wrap64 (2 - ((rd_T44 l2 x52_2).f0.f0))) - ((rd_T44 l2 x52_2).f0.f3))) * a1_0)), .int .i64 (wrap64 ((wrap64 ((wrap64 (2 - ((rd_T44 l2 x52_2).f0.f0))) - ((rd_T44 l2 x52_2).f0.f3))) * a1_1)), .int .i64 (wrap64 ((wrap64 ((wrap64 (2 - ((rd_T44 l2 x52_2).f0.f0))) - ((rd_T44 l2 x52_2).f0.f3))) * a1_2))] 28 (0, 0))) := ⟨h6_⟩
                       have n7_ : Aside0 (w81.heap[gb571]? = some (.cells #[.int .i64 0, .int .i64 0, .int .i64 0, .int .i64 0, .int .i64 0, .int .i64 0] 44 (0, 0))) := ⟨h7_⟩
                       have n8_ : Aside0 (w.heap.size ≤ gb571) := ⟨h8_⟩
                       have n9_ : Aside0 (w.heap.size ≤ gb571) := ⟨h9_⟩
                       have n10_ : Aside0 (gb544 ≠ gb571) := ⟨h10_⟩
                       have n11_ : Aside0 (gb571 ≠ gb544) := ⟨h11_⟩
                       have n12_ : Aside0 (gb553 ≠ gb571) := ⟨h12_⟩
                       have n13_ : Aside0 (gb571 ≠ gb553) := ⟨h13_⟩
                       have n14_ : Aside0 (gb554 ≠ gb571) := ⟨h14_⟩
                       have n15_ : Aside0 (gb571 ≠ gb554) := ⟨h15_⟩
                       have n16_ : Aside0 (gb559 ≠ gb571) := ⟨h16_⟩
                       have n17_ : Aside0 (gb571 ≠ gb559) := ⟨h17_⟩
                       have n18_ : Aside0 (gb562 ≠ gb571) := ⟨h18_⟩
                       have n19_ : Aside0 (gb571 ≠ gb562) := ⟨h19_⟩
                       have n20_ : Aside0 (Below w.heap.size w w81) := ⟨h20_⟩
                       clear HO_13
                       clear HO_50
                       clear BK544
                       clear BK553
                       clear BK554
                       clear BK559
                       clear BK562
                       clear HB
                       clear h0_ h1_ h2_ h3_ h4_ h5_ h6_ h7_ h8_ h9_ h10_ h11_ h12_ h13_ h14_ h15_ h16_ h17_ h18_ h19_ h20_
                       have HO_13 := n0_
                       have HO_50 := n1_
                       have BK544 := n2_
                       have BK553 := n3_
                       have BK554 := n4_
                       have BK559 := n5_
                       have BK562 := n6_
                       have BK571 := n7_
                       have GW571 := n8_
                       have GE571 := n9_
                       have NB544_571 := n10_
                       have NB571_544 := n11_
                       have NB553_571 := n12_
                       have NB571_553 := n13_
                       have NB554_571 := n14_
                       have NB571_554 := n15_
                       have NB559_571 := n16_
                       have NB571_559 := n17_
                       have NB562_571 := n18_
                       have NB571_562 := n19_
                       have HB := n20_
                       clear n0_ n1_ n2_ n3_ n4_ n5_ n6_ n7_ n8_ n9_ n10_ n11_ n12_ n13_ n14_ n15_ n16_ n17_ n18_ n19_ n20_
                       have hHeld : w81.cell? ⟨gb559, 0, none⟩ = some (.int .i64 ((rd_T44 l2 x52_2).f0.f0)) ∧ w81.cell? ⟨gb559, 1, none⟩ = some (.int .i64 ((rd_T44 l2 x52_2).f0.f1)) ∧ w81.cell? ⟨gb559, 2, none⟩ = some (.int .i64 ((rd_T44 l2 x52_2).f0.f2)) ∧ w81.cell? ⟨gb559, 3, none⟩ = some (.int .i64 ((rd_T44 l2 x52_2).f0.f3)) ∧ w81.cell? ⟨gb559, 4, none⟩ = some (.int .i64 ((rd_T44 l2 x52_2).f1.f0)) ∧ w81.cell? ⟨gb559, 5, none⟩ = some (.int .i64 ((rd_T44 l2 x52_2).f1.f1)) ∧ w81.cell? ⟨gb553, 0, none⟩ = some (.int .i64 t549) ∧ w81.cell? ⟨gb553, 1, none⟩ = some (.int .i64 t550) ∧ w81.cell? ⟨gb554, 0, none⟩ = some (.int .i64 t551) ∧ w81.cell? ⟨gb554, 1, none⟩ = some (.int .i64 t552) := hS_
                       refine norm_ (a' := ?_) ?_ ?_
                       rotate_left
                       ·simp only [putAll, Act.put, sA, sB, sC]
                        rfl
                       refine ro 8 (some 102) (bs 19 146943) HT_ (fun K hK => ?_)
                       refine gs Try.func19 #[.agg #[.int .i64 t549, .int .i64 t550], .int .i64 (wrap64 (Int.tdiv x91_4 (wrap64 ((wrap64 (2 - ((rd_T44 l2 x52_2).f0.f0))) - ((rd_T44 l2 x52_2).f0.f3)))))] ?_
                       with_reducible refine (impl_Vec_times.calls _ _ _ _ _ _ A70.out).mono ?_
                       rintro e w82 ⟨rfl, hb⟩
                       refine ⟨_, rfl, ?_⟩
                       replace HO_13 := asd (mapVe.MS_via HO_13.out (by (with_reducible repeat (first | apply mapVe.MS_alloc | apply mapVe.MS_drewN | apply mapVe.MS_drew)); exact HO_13.out) hb)
                       replace HO_50 := asd (Kd.V_below (by (with_reducible repeat (first | apply Kd.V_alloc | apply Kd.V_drewN | apply Kd.V_drew)); exact HO_50.out) hb)
                       replace BK544 := bB BK544 hb
                       replace BK553 := bB BK553 hb
                       replace BK554 := bB BK554 hb
                       replace BK559 := bB BK559 hb
                       replace BK562 := bB BK562 hb
                       replace BK571 := bB BK571 hb
                       replace HB := asd (below_step (by repeat (first | (with_reducible first | exact HB.out | apply below_alloc | apply pw_below_drewN | apply below_drew1 | refine below_set ?_ GE544.out | refine below_set ?_ GE553.out | refine below_set ?_ GE554.out | refine below_set ?_ GE559.out | refine below_set ?_ GE562.out | refine below_set ?_ GE571.out) | exact HB.out)) hb)
                       (try clear hb)
                       (try clear hb2)
                       (try clear hk)
                       (try clear hi)
                       refine hK.out _ _ (cb6 BK559 (cb2 BK553 (eb2 BK554))).out (fun hHeld => ?_)
                       clear hK K
                       refine norm_ (a' := ?_) ?_ ?_
                       rotate_left
                       ·show Act.put _ (some 102) _ = _
                        simp only [Act.put, sA, sB, sC, i64_w, i32_w]
                        rfl
                       exact norm_ (by first | (simp only [putAll, Act.put, sA, sB, sC]; done) | (simp only [putAll, Act.put, sA, sB, sC]; rfl)) (hJ8_17 (gb571) _ ⟨hHeld, (by (with_reducible repeat (first | apply mapVe.MS_alloc | apply mapVe.MS_drewN | apply mapVe.MS_drew)); exact HO_13.out), (by (with_reducible repeat (first | apply Kd.V_alloc | apply Kd.V_drewN | apply Kd.V_drew)); exact HO_50.out), (bkp BK544), (bkp BK553), (bkp BK554), (bkp BK559), (bkp BK562), (bkp BK571), GW571.out, GE571.out, NB544_571.out, NB571_544.out, NB553_571.out, NB571_553.out, NB554_571.out, NB571_554.out, NB559_571.out, NB571_559.out, NB562_571.out, NB571_562.out, (by repeat (first | (with_reducible first | exact HB.out | apply below_alloc | apply pw_below_drewN | apply below_drew1 | refine below_set ?_ GE544.out | refine below_set ?_ GE553.out | refine below_set ?_ GE554.out | refine below_set ?_ GE559.out | refine below_set ?_ GE562.out | refine below_set ?_ GE571.out) | exact HB.out))⟩)
                     ·skip
                      rintro _ w81 ⟨hS_, h0_, h1_, h2_, h3_, h4_, h5_, h6_, h7_⟩
                      have n0_ : Aside0 (mapVe.MS w81 gbM x13_4) := ⟨h0_⟩
                      have n1_ : Aside0 (Kd.V k44 44 w81 w.heap.size (fun k_ => (P2_ k_ ∨ w.heap.size ≤ k_) ∧ k_ ≠ gbM ∧ k_ ≠ gb544 ∧ k_ ≠ gb553 ∧ k_ ≠ gb554 ∧ k_ ≠ gb559 ∧ k_ ≠ gb562) (.slice (some ad558) l2.length c2) l2) := ⟨h1_⟩
                      have n2_ : Aside0 (w81.heap[gb544]? = some (.cells #[.int .i64 a1_0, .int .i64 a1_1, .int .i64 a1_2] 28 (0, 0))) := ⟨h2_⟩
                      have n3_ : Aside0 (w81.heap[gb553]? = some (.cells #[.int .i64 t549, .int .i64 t550] 42 (0, 0))) := ⟨h3_⟩
                      have n4_ : Aside0 (w81.heap[gb554]? = some (.cells #[.int .i64 t551, .int .i64 t552] 42 (0, 0))) := ⟨h4_⟩
                      have n5_ : Aside0 (w81.heap[gb559]? = some (.cells #[.int .i64 ((rd_T44 l2 x52_2).f0.f0), .int .i64 ((rd_T44 l2 x52_2).f0.f1), .int .i64 ((rd_T44 l2 x52_2).f0.f2), .int .i64 ((rd_T44 l2 x52_2).f0.f3), .int .i64 ((rd_T44 l2 x52_2).f1.f0), .int .i64 ((rd_T44 l2 x52_2).f1.f1)] 44 (0, 0))) := ⟨h5_⟩
                      have n6_ : Aside0 (w81.heap[gb562]? = some (.cells #[.int .i64 (wrap64 ((wrap64 ((wrap64 (2 - ((rd_T44 l2 x52_2).f0.f0))) - ((rd_T44 l2 x52_2).f0.f3))) * a1_0)), .int .i64 (wrap64 ((wrap64 ((wrap64 (2 - ((rd_T44 l2 x52_2).f0.f0))) - ((rd_T44 l2 x52_2).f0.f3))) * a1_1)), .int .i64 (wrap64 ((wrap64 ((wrap64 (2 - ((rd_T44 l2 x52_2).f0.f0))) - ((rd_T44 l2 x52_2).f0.f3))) * a1_2))] 28 (0, 0))) := ⟨h6_⟩
                      have n7_ : Aside0 (Below w.heap.size w w81) := ⟨h7_⟩
                      clear HO_13
                      clear HO_50
                      clear BK544
                      clear BK553
                      clear BK554
                      clear BK559
                      clear BK562
                      clear HB
                      clear h0_ h1_ h2_ h3_ h4_ h5_ h6_ h7_
                      have HO_13 := n0_
                      have HO_50 := n1_
                      have BK544 := n2_
                      have BK553 := n3_
                      have BK554 := n4_
                      have BK559 := n5_
                      have BK562 := n6_
                      have HB := n7_
                      clear n0_ n1_ n2_ n3_ n4_ n5_ n6_ n7_
                      have hHeld : w81.cell? ⟨gb559, 0, none⟩ = some (.int .i64 ((rd_T44 l2 x52_2).f0.f0)) ∧ w81.cell? ⟨gb559, 1, none⟩ = some (.int .i64 ((rd_T44 l2 x52_2).f0.f1)) ∧ w81.cell? ⟨gb559, 2, none⟩ = some (.int .i64 ((rd_T44 l2 x52_2).f0.f2)) ∧ w81.cell? ⟨gb559, 3, none⟩ = some (.int .i64 ((rd_T44 l2 x52_2).f0.f3)) ∧ w81.cell? ⟨gb559, 4, none⟩ = some (.int .i64 ((rd_T44 l2 x52_2).f1.f0)) ∧ w81.cell? ⟨gb559, 5, none⟩ = some (.int .i64 ((rd_T44 l2 x52_2).f1.f1)) ∧ w81.cell? ⟨gb553, 0, none⟩ = some (.int .i64 t549) ∧ w81.cell? ⟨gb553, 1, none⟩ = some (.int .i64 t550) ∧ w81.cell? ⟨gb554, 0, none⟩ = some (.int .i64 t551) ∧ w81.cell? ⟨gb554, 1, none⟩ = some (.int .i64 t552) := hS_
                      refine norm_ (a' := ?_) ?_ ?_
                      rotate_left
                      ·simp only [putAll, Act.put, sA, sB, sC]
                       rfl
                      refine two_ (i := 9) (j := 17) (Ni := some 103) (Nj := some 19) (bT 19 14) (bs 19 146943) rfl rfl rfl rfl (two_of HT_.out (by kernel_rfl)) (by decide) (by decide) (fun K hK => ?_) (fun K hK => ?_)
                      ·skip
                       refine gs Try.func18 #[.agg #[.int .i64 ((rd_T44 l2 x52_2).f1.f0), .int .i64 ((rd_T44 l2 x52_2).f1.f1)], .agg #[.int .i64 t563, .int .i64 t564]] ?_
                       with_reducible refine (impl_Vec_add.calls _ _ _ _ _ _ _ A71.out).mono ?_
                       rintro e w82 ⟨rfl, hb⟩
                       refine ⟨_, rfl, ?_⟩
                       replace HO_13 := asd (mapVe.MS_via HO_13.out (by (with_reducible repeat (first | apply mapVe.MS_alloc | apply mapVe.MS_drewN | apply mapVe.MS_drew)); exact HO_13.out) hb)
                       replace HO_50 := asd (Kd.V_below (by (with_reducible repeat (first | apply Kd.V_alloc | apply Kd.V_drewN | apply Kd.V_drew)); exact HO_50.out) hb)
                       replace BK544 := bB BK544 hb
                       replace BK553 := bB BK553 hb
                       replace BK554 := bB BK554 hb
                       replace BK559 := bB BK559 hb
                       replace BK562 := bB BK562 hb
                       replace HB := asd (below_step (by repeat (first | (with_reducible first | exact HB.out | apply below_alloc | apply pw_below_drewN | apply below_drew1 | refine below_set ?_ GE544.out | refine below_set ?_ GE553.out | refine below_set ?_ GE554.out | refine below_set ?_ GE559.out | refine below_set ?_ GE562.out) | exact HB.out)) hb)
                       (try clear hb)
                       (try clear hb2)
                       (try clear hk)
                       (try clear hi)
                       refine hK.out _ _ (cb6 BK559 (cb2 BK553 (eb2 BK554))).out (fun hHeld => ?_)
                       clear hK K
                       refine norm_ (a' := ?_) ?_ ?_
                       rotate_left
                       ·show Act.put _ (some 103) _ = _
                        simp only [Act.put, sA, sB, sC, i64_w, i32_w]
                        rfl
                       exact norm_ (by first | (simp only [putAll, Act.put, sA, sB, sC]; done) | (simp only [putAll, Act.put, sA, sB, sC]; rfl)) (hJ8_9 () _ ⟨hHeld, (by (with_reducible repeat (first | apply mapVe.MS_alloc | apply mapVe.MS_drewN | apply mapVe.MS_drew)); exact HO_13.out), (by (with_reducible repeat (first | apply Kd.V_alloc | apply Kd.V_drewN | apply Kd.V_drew)); exact HO_50.out), (bkp BK544), (bkp BK553), (bkp BK554), (bkp BK559), (bkp BK562), (by repeat (first | (with_reducible first | exact HB.out | apply below_alloc | apply pw_below_drewN | apply below_drew1 | refine below_set ?_ GE544.out | refine below_set ?_ GE553.out | refine below_set ?_ GE554.out | refine below_set ?_ GE559.out | refine below_set ?_ GE562.out) | exact HB.out))⟩)
                      ·skip
                       refine box_step ?hg (N := 19) ?hd (cs := #[.int .i64 0, .int .i64 0, .int .i64 0, .int .i64 0, .int .i64 0, .int .i64 0]) (t := 44) ?hr ?_; (case hd => rfl); (case hg => rfl); (case hr => first | (go_simp; done) | (go_simp; rfl))
                       intro gb571 hg w82 hbox hb
                       replace HO_13 := asd (mapVe.MS_via HO_13.out (by (with_reducible repeat (first | apply mapVe.MS_alloc | apply mapVe.MS_drewN | apply mapVe.MS_drew)); exact HO_13.out) hb)
                       replace HO_50 := asd (Kd.V_below (Kd.V_elderB (by (with_reducible repeat (first | apply Kd.V_alloc | apply Kd.V_drewN | apply Kd.V_drew)); exact HO_50.out) gb571 (Nat.le_of_eq hg.symm)) hb)
                       have BK571 := asd (hbox)
                       have GW571 := asd ((by rw [hg]; exact (below_size (by repeat (first | (with_reducible first | exact HB.out | apply below_alloc | apply pw_below_drewN | apply below_drew1 | refine below_set ?_ GE544.out | refine below_set ?_ GE553.out | refine below_set ?_ GE554.out | refine below_set ?_ GE559.out | refine below_set ?_ GE562.out) | exact HB.out))) : w.heap.size ≤ gb571))
                       have GE571 := asd ((by rw [hg]; exact (below_size (by repeat (first | (with_reducible first | exact HB.out | apply below_alloc | apply pw_below_drewN | apply below_drew1 | refine below_set ?_ GE544.out | refine below_set ?_ GE553.out | refine below_set ?_ GE554.out | refine below_set ?_ GE559.out | refine below_set ?_ GE562.out) | exact HB.out))) : w.heap.size ≤ gb571))
                       replace HB := asd (below_step (by repeat (first | (with_reducible first | exact HB.out | apply below_alloc | apply pw_below_drewN | apply below_drew1 | refine below_set ?_ GE544.out | refine below_set ?_ GE553.out | refine below_set ?_ GE554.out | refine below_set ?_ GE559.out | refine below_set ?_ GE562.out) | exact HB.out)) hb)
                       have NB544_571 := nlt hg BK544
                       have NB571_544 := nsy (nlt hg BK544)
                       replace BK544 := bB BK544 hb
                       have NB553_571 := nlt hg BK553
                       have NB571_553 := nsy (nlt hg BK553)
                       replace BK553 := bB BK553 hb
                       have NB554_571 := nlt hg BK554
                       have NB571_554 := nsy (nlt hg BK554)
                       replace BK554 := bB BK554 hb
                       have NB559_571 := nlt hg BK559
                       have NB571_559 := nsy (nlt hg BK559)
                       replace BK559 := bB BK559 hb
                       have NB562_571 := nlt hg BK562
                       have NB571_562 := nsy (nlt hg BK562)
                       replace BK562 := bB BK562 hb
                       clear hb hbox hg
                       refine hK.out _ _ (cb6 BK559 (cb2 BK553 (eb2 BK554))).out (fun hHeld => ?_)
                       clear hK K
                       refine norm_ (a' := ?_) ?_ ?_
                       rotate_left
                       ·show Act.put _ (some 19) _ = _
                        simp only [Act.put, sA, sB, sC, i64_w, i32_w]
                        rfl
                       exact norm_ (by first | (simp only [putAll, Act.put, sA, sB, sC]; done) | (simp only [putAll, Act.put, sA, sB, sC]; rfl)) (hJ8_17 (gb571) _ ⟨hHeld, (by (with_reducible repeat (first | apply mapVe.MS_alloc | apply mapVe.MS_drewN | apply mapVe.MS_drew)); exact HO_13.out), (by (with_reducible repeat (first | apply Kd.V_alloc | apply Kd.V_drewN | apply Kd.V_drew)); exact Kd.V_mono HO_50.out (fun _ hk => ⟨hk.1.1, ⟨hk.1.2.1, ⟨hk.1.2.2.1, ⟨hk.1.2.2.2.1, ⟨hk.1.2.2.2.2.1, ⟨hk.1.2.2.2.2.2.1, ⟨hk.1.2.2.2.2.2.2, hk.2⟩⟩⟩⟩⟩⟩⟩)), (bkp BK544), (bkp BK553), (bkp BK554), (bkp BK559), (bkp BK562), (bkp BK571), GW571.out, GE571.out, NB544_571.out, NB571_544.out, NB553_571.out, NB571_553.out, NB554_571.out, NB571_554.out, NB559_571.out, NB571_559.out, NB562_571.out, NB571_562.out, (by repeat (first | (with_reducible first | exact HB.out | apply below_alloc | apply pw_below_drewN | apply below_drew1 | refine below_set ?_ GE544.out | refine below_set ?_ GE553.out | refine below_set ?_ GE554.out | refine below_set ?_ GE559.out | refine below_set ?_ GE562.out | refine below_set ?_ GE571.out) | exact HB.out))⟩)
                    ·skip
                     rintro gb571 w82 ⟨hS_, h0_, h1_, h2_, h3_, h4_, h5_, h6_, h7_, h8_, h9_, h10_, h11_, h12_, h13_, h14_, h15_, h16_, h17_, h18_, h19_, h20_⟩
                     have n0_ : Aside0 (mapVe.MS w82 gbM x13_4) := ⟨h0_⟩
                     have n1_ : Aside0 (Kd.V k44 44 w82 w.heap.size (fun k_ => (P2_ k_ ∨ w.heap.size ≤ k_) ∧ k_ ≠ gbM ∧ k_ ≠ gb544 ∧ k_ ≠ gb553 ∧ k_ ≠ gb554 ∧ k_ ≠ gb559 ∧ k_ ≠ gb562 ∧ k_ ≠ gb571) (.slice (some ad558) l2.length c2) l2) := ⟨h1_⟩
                     have n2_ : Aside0 (w82.heap[gb544]? = some (.cells #[.int .i64 a1_0, .int .i64 a1_1, .int .i64 a1_2] 28 (0, 0))) := ⟨h2_⟩
                     have n3_ : Aside0 (w82.heap[gb553]? = some (.cells #[.int .i64 t549, .int .i64 t550] 42 (0, 0))) := ⟨h3_⟩
                     have n4_ : Aside0 (w82.heap[gb554]? = some (.cells #[.int .i64 t551, .int .i64 t552] 42 (0, 0))) := ⟨h4_⟩
                     have n5_ : Aside0 (w82.heap[gb559]? = some (.cells #[.int .i64 ((rd_T44 l2 x52_2).f0.f0), .int .i64 ((rd_T44 l2 x52_2).f0.f1), .int .i64 ((rd_T44 l2 x52_2).f0.f2), .int .i64 ((rd_T44 l2 x52_2).f0.f3), .int .i64 ((rd_T44 l2 x52_2).f1.f0), .int .i64 ((rd_T44 l2 x52_2).f1.f1)] 44 (0, 0))) := ⟨h5_⟩
                     have n6_ : Aside0 (w82.heap[gb562]? = some (.cells #[.int .i64 (wrap64 ((wrap64 ((wrap64 (2 - ((rd_T44 l2 x52_2).f0.f0))) - ((rd_T44 l2 x52_2).f0.f3))) * a1_0)), .int .i64 (wrap64 ((wrap64 ((wrap64 (2 - ((rd_T44 l2 x52_2).f0.f0))) - ((rd_T44 l2 x52_2).f0.f3))) * a1_1)), .int .i64 (wrap64 ((wrap64 ((wrap64 (2 - ((rd_T44 l2 x52_2).f0.f0))) - ((rd_T44 l2 x52_2).f0.f3))) * a1_2))] 28 (0, 0))) := ⟨h6_⟩
                     have n7_ : Aside0 (w82.heap[gb571]? = some (.cells #[.int .i64 0, .int .i64 0, .int .i64 0, .int .i64 0, .int .i64 0, .int .i64 0] 44 (0, 0))) := ⟨h7_⟩
                     have n8_ : Aside0 (w.heap.size ≤ gb571) := ⟨h8_⟩
                     have n9_ : Aside0 (w.heap.size ≤ gb571) := ⟨h9_⟩
                     have n10_ : Aside0 (gb544 ≠ gb571) := ⟨h10_⟩
                     have n11_ : Aside0 (gb571 ≠ gb544) := ⟨h11_⟩
                     have n12_ : Aside0 (gb553 ≠ gb571) := ⟨h12_⟩
                     have n13_ : Aside0 (gb571 ≠ gb553) := ⟨h13_⟩
                     have n14_ : Aside0 (gb554 ≠ gb571) := ⟨h14_⟩
                     have n15_ : Aside0 (gb571 ≠ gb554) := ⟨h15_⟩
                     have n16_ : Aside0 (gb559 ≠ gb571) := ⟨h16_⟩
                     have n17_ : Aside0 (gb571 ≠ gb559) := ⟨h17_⟩
                     have n18_ : Aside0 (gb562 ≠ gb571) := ⟨h18_⟩
                     have n19_ : Aside0 (gb571 ≠ gb562) := ⟨h19_⟩
                     have n20_ : Aside0 (Below w.heap.size w w82) := ⟨h20_⟩
                     clear HO_13
                     clear HO_50
                     clear BK544
                     clear BK553
                     clear BK554
                     clear BK559
                     clear BK562
                     clear HB
                     clear h0_ h1_ h2_ h3_ h4_ h5_ h6_ h7_ h8_ h9_ h10_ h11_ h12_ h13_ h14_ h15_ h16_ h17_ h18_ h19_ h20_
                     have HO_13 := n0_
                     have HO_50 := n1_
                     have BK544 := n2_
                     have BK553 := n3_
                     have BK554 := n4_
                     have BK559 := n5_
                     have BK562 := n6_
                     have BK571 := n7_
                     have GW571 := n8_
                     have GE571 := n9_
                     have NB544_571 := n10_
                     have NB571_544 := n11_
                     have NB553_571 := n12_
                     have NB571_553 := n13_
                     have NB554_571 := n14_
                     have NB571_554 := n15_
                     have NB559_571 := n16_
                     have NB571_559 := n17_
                     have NB562_571 := n18_
                     have NB571_562 := n19_
                     have HB := n20_
                     clear n0_ n1_ n2_ n3_ n4_ n5_ n6_ n7_ n8_ n9_ n10_ n11_ n12_ n13_ n14_ n15_ n16_ n17_ n18_ n19_ n20_
                     have hHeld : w82.cell? ⟨gb559, 0, none⟩ = some (.int .i64 ((rd_T44 l2 x52_2).f0.f0)) ∧ w82.cell? ⟨gb559, 1, none⟩ = some (.int .i64 ((rd_T44 l2 x52_2).f0.f1)) ∧ w82.cell? ⟨gb559, 2, none⟩ = some (.int .i64 ((rd_T44 l2 x52_2).f0.f2)) ∧ w82.cell? ⟨gb559, 3, none⟩ = some (.int .i64 ((rd_T44 l2 x52_2).f0.f3)) ∧ w82.cell? ⟨gb559, 4, none⟩ = some (.int .i64 ((rd_T44 l2 x52_2).f1.f0)) ∧ w82.cell? ⟨gb559, 5, none⟩ = some (.int .i64 ((rd_T44 l2 x52_2).f1.f1)) ∧ w82.cell? ⟨gb553, 0, none⟩ = some (.int .i64 t549) ∧ w82.cell? ⟨gb553, 1, none⟩ = some (.int .i64 t550) ∧ w82.cell? ⟨gb554, 0, none⟩ = some (.int .i64 t551) ∧ w82.cell? ⟨gb554, 1, none⟩ = some (.int .i64 t552) := hS_
                     refine norm_ (a' := ?_) ?_ ?_
                     rotate_left
                     ·simp only [putAll, Act.put, sA, sB, sC]
                      rfl
                     refine ro 9 (some 103) (bs 19 147455) HT_ (fun K hK => ?_)
                     refine gs Try.func18 #[.agg #[.int .i64 ((rd_T44 l2 x52_2).f1.f0), .int .i64 ((rd_T44 l2 x52_2).f1.f1)], .agg #[.int .i64 t563, .int .i64 t564]] ?_
                     with_reducible refine (impl_Vec_add.calls _ _ _ _ _ _ _ A71.out).mono ?_
                     rintro e w83 ⟨rfl, hb⟩
                     refine ⟨_, rfl, ?_⟩
                     replace HO_13 := asd (mapVe.MS_via HO_13.out (by (with_reducible repeat (first | apply mapVe.MS_alloc | apply mapVe.MS_drewN | apply mapVe.MS_drew)); exact HO_13.out) hb)
                     replace HO_50 := asd (Kd.V_below (by (with_reducible repeat (first | apply Kd.V_alloc | apply Kd.V_drewN | apply Kd.V_drew)); exact HO_50.out) hb)
                     replace BK544 := bB BK544 hb
                     replace BK553 := bB BK553 hb
                     replace BK554 := bB BK554 hb
                     replace BK559 := bB BK559 hb
                     replace BK562 := bB BK562 hb
                     replace BK571 := bB BK571 hb
                     replace HB := asd (below_step (by repeat (first | (with_reducible first | exact HB.out | apply below_alloc | apply pw_below_drewN | apply below_drew1 | refine below_set ?_ GE544.out | refine below_set ?_ GE553.out | refine below_set ?_ GE554.out | refine below_set ?_ GE559.out | refine below_set ?_ GE562.out | refine below_set ?_ GE571.out) | exact HB.out)) hb)
                     (try clear hb)
                     (try clear hb2)
                     (try clear hk)
                     (try clear hi)
                     refine hK.out _ _ (cb6 BK559 (cb2 BK553 (eb2 BK554))).out (fun hHeld => ?_)
                     clear hK K
                     refine norm_ (a' := ?_) ?_ ?_
                     rotate_left
                     ·show Act.put _ (some 103) _ = _
                      simp only [Act.put, sA, sB, sC, i64_w, i32_w]
                      rfl
                     exact norm_ (by first | (simp only [putAll, Act.put, sA, sB, sC]; done) | (simp only [putAll, Act.put, sA, sB, sC]; rfl)) (hJ8_9_17 (gb571) _ ⟨hHeld, (by (with_reducible repeat (first | apply mapVe.MS_alloc | apply mapVe.MS_drewN | apply mapVe.MS_drew)); exact HO_13.out), (by (with_reducible repeat (first | apply Kd.V_alloc | apply Kd.V_drewN | apply Kd.V_drew)); exact HO_50.out), (bkp BK544), (bkp BK553), (bkp BK554), (bkp BK559), (bkp BK562), (bkp BK571), GW571.out, GE571.out, NB544_571.out, NB571_544.out, NB553_571.out, NB571_553.out, NB554_571.out, NB571_554.out, NB559_571.out, NB571_559.out, NB562_571.out, NB571_562.out, (by repeat (first | (with_reducible first | exact HB.out | apply below_alloc | apply pw_below_drewN | apply below_drew1 | refine below_set ?_ GE544.out | refine below_set ?_ GE553.out | refine below_set ?_ GE554.out | refine below_set ?_ GE559.out | refine below_set ?_ GE562.out | refine below_set ?_ GE571.out) | exact HB.out))⟩)
                   ·skip
                    rintro _ w82 ⟨hS_, h0_, h1_, h2_, h3_, h4_, h5_, h6_, h7_⟩
                    have n0_ : Aside0 (mapVe.MS w82 gbM x13_4) := ⟨h0_⟩
                    have n1_ : Aside0 (Kd.V k44 44 w82 w.heap.size (fun k_ => (P2_ k_ ∨ w.heap.size ≤ k_) ∧ k_ ≠ gbM ∧ k_ ≠ gb544 ∧ k_ ≠ gb553 ∧ k_ ≠ gb554 ∧ k_ ≠ gb559 ∧ k_ ≠ gb562) (.slice (some ad558) l2.length c2) l2) := ⟨h1_⟩
                    have n2_ : Aside0 (w82.heap[gb544]? = some (.cells #[.int .i64 a1_0, .int .i64 a1_1, .int .i64 a1_2] 28 (0, 0))) := ⟨h2_⟩
                    have n3_ : Aside0 (w82.heap[gb553]? = some (.cells #[.int .i64 t549, .int .i64 t550] 42 (0, 0))) := ⟨h3_⟩
                    have n4_ : Aside0 (w82.heap[gb554]? = some (.cells #[.int .i64 t551, .int .i64 t552] 42 (0, 0))) := ⟨h4_⟩
                    have n5_ : Aside0 (w82.heap[gb559]? = some (.cells #[.int .i64 ((rd_T44 l2 x52_2).f0.f0), .int .i64 ((rd_T44 l2 x52_2).f0.f1), .int .i64 ((rd_T44 l2 x52_2).f0.f2), .int .i64 ((rd_T44 l2 x52_2).f0.f3), .int .i64 ((rd_T44 l2 x52_2).f1.f0), .int .i64 ((rd_T44 l2 x52_2).f1.f1)] 44 (0, 0))) := ⟨h5_⟩
                    have n6_ : Aside0 (w82.heap[gb562]? = some (.cells #[.int .i64 (wrap64 ((wrap64 ((wrap64 (2 - ((rd_T44 l2 x52_2).f0.f0))) - ((rd_T44 l2 x52_2).f0.f3))) * a1_0)), .int .i64 (wrap64 ((wrap64 ((wrap64 (2 - ((rd_T44 l2 x52_2).f0.f0))) - ((rd_T44 l2 x52_2).f0.f3))) * a1_1)), .int .i64 (wrap64 ((wrap64 ((wrap64 (2 - ((rd_T44 l2 x52_2).f0.f0))) - ((rd_T44 l2 x52_2).f0.f3))) * a1_2))] 28 (0, 0))) := ⟨h6_⟩
                    have n7_ : Aside0 (Below w.heap.size w w82) := ⟨h7_⟩
                    clear HO_13
                    clear HO_50
                    clear BK544
                    clear BK553
                    clear BK554
                    clear BK559
                    clear BK562
                    clear HB
                    clear h0_ h1_ h2_ h3_ h4_ h5_ h6_ h7_
                    have HO_13 := n0_
                    have HO_50 := n1_
                    have BK544 := n2_
                    have BK553 := n3_
                    have BK554 := n4_
                    have BK559 := n5_
                    have BK562 := n6_
                    have HB := n7_
                    clear n0_ n1_ n2_ n3_ n4_ n5_ n6_ n7_
                    have hHeld : w82.cell? ⟨gb559, 0, none⟩ = some (.int .i64 ((rd_T44 l2 x52_2).f0.f0)) ∧ w82.cell? ⟨gb559, 1, none⟩ = some (.int .i64 ((rd_T44 l2 x52_2).f0.f1)) ∧ w82.cell? ⟨gb559, 2, none⟩ = some (.int .i64 ((rd_T44 l2 x52_2).f0.f2)) ∧ w82.cell? ⟨gb559, 3, none⟩ = some (.int .i64 ((rd_T44 l2 x52_2).f0.f3)) ∧ w82.cell? ⟨gb559, 4, none⟩ = some (.int .i64 ((rd_T44 l2 x52_2).f1.f0)) ∧ w82.cell? ⟨gb559, 5, none⟩ = some (.int .i64 ((rd_T44 l2 x52_2).f1.f1)) ∧ w82.cell? ⟨gb553, 0, none⟩ = some (.int .i64 t549) ∧ w82.cell? ⟨gb553, 1, none⟩ = some (.int .i64 t550) ∧ w82.cell? ⟨gb554, 0, none⟩ = some (.int .i64 t551) ∧ w82.cell? ⟨gb554, 1, none⟩ = some (.int .i64 t552) := hS_
                    refine norm_ (a' := ?_) ?_ ?_
                    rotate_left
                    ·simp only [putAll, Act.put, sA, sB, sC]
                     rfl
                    refine two_ (i := 14) (j := 17) (Ni := some 108) (Nj := some 19) (bT 19 15) (bs 19 147455) rfl rfl rfl rfl (two_of HT_.out (by kernel_rfl)) (by decide) (by decide) (fun K hK => ?_) (fun K hK => ?_)
                    ·skip
                     refine gs Try.func19 #[.agg #[.int .i64 t551, .int .i64 t552], .int .i64 (Int.tmod x91_4 (wrap64 ((wrap64 (2 - ((rd_T44 l2 x52_2).f0.f0))) - ((rd_T44 l2 x52_2).f0.f3))))] ?_
                     with_reducible refine (impl_Vec_times.calls _ _ _ _ _ _ A72.out).mono ?_
                     rintro e w83 ⟨rfl, hb⟩
                     refine ⟨_, rfl, ?_⟩
                     replace HO_13 := asd (mapVe.MS_via HO_13.out (by (with_reducible repeat (first | apply mapVe.MS_alloc | apply mapVe.MS_drewN | apply mapVe.MS_drew)); exact HO_13.out) hb)
                     replace HO_50 := asd (Kd.V_below (by (with_reducible repeat (first | apply Kd.V_alloc | apply Kd.V_drewN | apply Kd.V_drew)); exact HO_50.out) hb)
                     replace BK544 := bB BK544 hb
                     replace BK553 := bB BK553 hb
                     replace BK554 := bB BK554 hb
                     replace BK559 := bB BK559 hb
                     replace BK562 := bB BK562 hb
                     replace HB := asd (below_step (by repeat (first | (with_reducible first | exact HB.out | apply below_alloc | apply pw_below_drewN | apply below_drew1 | refine below_set ?_ GE544.out | refine below_set ?_ GE553.out | refine below_set ?_ GE554.out | refine below_set ?_ GE559.out | refine below_set ?_ GE562.out) | exact HB.out)) hb)
                     (try clear hb)
                     (try clear hb2)
                     (try clear hk)
                     (try clear hi)
                     refine hK.out _ _ (cb6 BK559 (cb2 BK553 (eb2 BK554))).out (fun hHeld => ?_)
                     clear hK K
                     refine norm_ (a' := ?_) ?_ ?_
                     rotate_left
                     ·show Act.put _ (some 108) _ = _
                      simp only [Act.put, sA, sB, sC, i64_w, i32_w]
                      rfl
                     exact norm_ (by first | (simp only [putAll, Act.put, sA, sB, sC]; done) | (simp only [putAll, Act.put, sA, sB, sC]; rfl)) (hJ8_9_14 () _ ⟨hHeld, (by (with_reducible repeat (first | apply mapVe.MS_alloc | apply mapVe.MS_drewN | apply mapVe.MS_drew)); exact HO_13.out), (by (with_reducible repeat (first | apply Kd.V_alloc | apply Kd.V_drewN | apply Kd.V_drew)); exact HO_50.out), (bkp BK544), (bkp BK553), (bkp BK554), (bkp BK559), (bkp BK562), (by repeat (first | (with_reducible first | exact HB.out | apply below_alloc | apply pw_below_drewN | apply below_drew1 | refine below_set ?_ GE544.out | refine below_set ?_ GE553.out | refine below_set ?_ GE554.out | refine below_set ?_ GE559.out | refine below_set ?_ GE562.out) | exact HB.out))⟩)
                    ·skip
                     refine box_step ?hg (N := 19) ?hd (cs := #[.int .i64 0, .int .i64 0, .int .i64 0, .int .i64 0, .int .i64 0, .int .i64 0]) (t := 44) ?hr ?_; (case hd => rfl); (case hg => rfl); (case hr => first | (go_simp; done) | (go_simp; rfl))
                     intro gb571 hg w83 hbox hb
                     replace HO_13 := asd (mapVe.MS_via HO_13.out (by (with_reducible repeat (first | apply mapVe.MS_alloc | apply mapVe.MS_drewN | apply mapVe.MS_drew)); exact HO_13.out) hb)
                     replace HO_50 := asd (Kd.V_below (Kd.V_elderB (by (with_reducible repeat (first | apply Kd.V_alloc | apply Kd.V_drewN | apply Kd.V_drew)); exact HO_50.out) gb571 (Nat.le_of_eq hg.symm)) hb)
                     have BK571 := asd (hbox)
                     have GW571 := asd ((by rw [hg]; exact (below_size (by repeat (first | (with_reducible first | exact HB.out | apply below_alloc | apply pw_below_drewN | apply below_drew1 | refine below_set ?_ GE544.out | refine below_set ?_ GE553.out | refine below_set ?_ GE554.out | refine below_set ?_ GE559.out | refine below_set ?_ GE562.out) | exact HB.out))) : w.heap.size ≤ gb571))
                     have GE571 := asd ((by rw [hg]; exact (below_size (by repeat (first | (with_reducible first | exact HB.out | apply below_alloc | apply pw_below_drewN | apply below_drew1 | refine below_set ?_ GE544.out | refine below_set ?_ GE553.out | refine below_set ?_ GE554.out | refine below_set ?_ GE559.out | refine below_set ?_ GE562.out) | exact HB.out))) : w.heap.size ≤ gb571))
                     replace HB := asd (below_step (by repeat (first | (with_reducible first | exact HB.out | apply below_alloc | apply pw_below_drewN | apply below_drew1 | refine below_set ?_ GE544.out | refine below_set ?_ GE553.out | refine below_set ?_ GE554.out | refine below_set ?_ GE559.out | refine below_set ?_ GE562.out) | exact HB.out)) hb)
                     have NB544_571 := nlt hg BK544
                     have NB571_544 := nsy (nlt hg BK544)
                     replace BK544 := bB BK544 hb
                     have NB553_571 := nlt hg BK553
                     have NB571_553 := nsy (nlt hg BK553)
                     replace BK553 := bB BK553 hb
                     have NB554_571 := nlt hg BK554
                     have NB571_554 := nsy (nlt hg BK554)
                     replace BK554 := bB BK554 hb
                     have NB559_571 := nlt hg BK559
                     have NB571_559 := nsy (nlt hg BK559)
                     replace BK559 := bB BK559 hb
                     have NB562_571 := nlt hg BK562
                     have NB571_562 := nsy (nlt hg BK562)
                     replace BK562 := bB BK562 hb
                     clear hb hbox hg
                     refine hK.out _ _ (cb6 BK559 (cb2 BK553 (eb2 BK554))).out (fun hHeld => ?_)
                     clear hK K
                     refine norm_ (a' := ?_) ?_ ?_
                     rotate_left
                     ·show Act.put _ (some 19) _ = _
                      simp only [Act.put, sA, sB, sC, i64_w, i32_w]
                      rfl
                     exact norm_ (by first | (simp only [putAll, Act.put, sA, sB, sC]; done) | (simp only [putAll, Act.put, sA, sB, sC]; rfl)) (hJ8_9_17 (gb571) _ ⟨hHeld, (by (with_reducible repeat (first | apply mapVe.MS_alloc | apply mapVe.MS_drewN | apply mapVe.MS_drew)); exact HO_13.out), (by (with_reducible repeat (first | apply Kd.V_alloc | apply Kd.V_drewN | apply Kd.V_drew)); exact Kd.V_mono HO_50.out (fun _ hk => ⟨hk.1.1, ⟨hk.1.2.1, ⟨hk.1.2.2.1, ⟨hk.1.2.2.2.1, ⟨hk.1.2.2.2.2.1, ⟨hk.1.2.2.2.2.2.1, ⟨hk.1.2.2.2.2.2.2, hk.2⟩⟩⟩⟩⟩⟩⟩)), (bkp BK544), (bkp BK553), (bkp BK554), (bkp BK559), (bkp BK562), (bkp BK571), GW571.out, GE571.out, NB544_571.out, NB571_544.out, NB553_571.out, NB571_553.out, NB554_571.out, NB571_554.out, NB559_571.out, NB571_559.out, NB562_571.out, NB571_562.out, (by repeat (first | (with_reducible first | exact HB.out | apply below_alloc | apply pw_below_drewN | apply below_drew1 | refine below_set ?_ GE544.out | refine below_set ?_ GE553.out | refine below_set ?_ GE554.out | refine below_set ?_ GE559.out | refine below_set ?_ GE562.out | refine below_set ?_ GE571.out) | exact HB.out))⟩)
                  ·skip
                   rintro gb571 w83 ⟨hS_, h0_, h1_, h2_, h3_, h4_, h5_, h6_, h7_, h8_, h9_, h10_, h11_, h12_, h13_, h14_, h15_, h16_, h17_, h18_, h19_, h20_⟩
                   have n0_ : Aside0 (mapVe.MS w83 gbM x13_4) := ⟨h0_⟩
                   have n1_ : Aside0 (Kd.V k44 44 w83 w.heap.size (fun k_ => (P2_ k_ ∨ w.heap.size ≤ k_) ∧ k_ ≠ gbM ∧ k_ ≠ gb544 ∧ k_ ≠ gb553 ∧ k_ ≠ gb554 ∧ k_ ≠ gb559 ∧ k_ ≠ gb562 ∧ k_ ≠ gb571) (.slice (some ad558) l2.length c2) l2) := ⟨h1_⟩
                   have n2_ : Aside0 (w83.heap[gb544]? = some (.cells #[.int .i64 a1_0, .int .i64 a1_1, .int .i64 a1_2] 28 (0, 0))) := ⟨h2_⟩
                   have n3_ : Aside0 (w83.heap[gb553]? = some (.cells #[.int .i64 t549, .int .i64 t550] 42 (0, 0))) := ⟨h3_⟩
                   have n4_ : Aside0 (w83.heap[gb554]? = some (.cells #[.int .i64 t551, .int .i64 t552] 42 (0, 0))) := ⟨h4_⟩
                   have n5_ : Aside0 (w83.heap[gb559]? = some (.cells #[.int .i64 ((rd_T44 l2 x52_2).f0.f0), .int .i64 ((rd_T44 l2 x52_2).f0.f1), .int .i64 ((rd_T44 l2 x52_2).f0.f2), .int .i64 ((rd_T44 l2 x52_2).f0.f3), .int .i64 ((rd_T44 l2 x52_2).f1.f0), .int .i64 ((rd_T44 l2 x52_2).f1.f1)] 44 (0, 0))) := ⟨h5_⟩
                   have n6_ : Aside0 (w83.heap[gb562]? = some (.cells #[.int .i64 (wrap64 ((wrap64 ((wrap64 (2 - ((rd_T44 l2 x52_2).f0.f0))) - ((rd_T44 l2 x52_2).f0.f3))) * a1_0)), .int .i64 (wrap64 ((wrap64 ((wrap64 (2 - ((rd_T44 l2 x52_2).f0.f0))) - ((rd_T44 l2 x52_2).f0.f3))) * a1_1)), .int .i64 (wrap64 ((wrap64 ((wrap64 (2 - ((rd_T44 l2 x52_2).f0.f0))) - ((rd_T44 l2 x52_2).f0.f3))) * a1_2))] 28 (0, 0))) := ⟨h6_⟩
                   have n7_ : Aside0 (w83.heap[gb571]? = some (.cells #[.int .i64 0, .int .i64 0, .int .i64 0, .int .i64 0, .int .i64 0, .int .i64 0] 44 (0, 0))) := ⟨h7_⟩
                   have n8_ : Aside0 (w.heap.size ≤ gb571) := ⟨h8_⟩
                   have n9_ : Aside0 (w.heap.size ≤ gb571) := ⟨h9_⟩
                   have n10_ : Aside0 (gb544 ≠ gb571) := ⟨h10_⟩
                   have n11_ : Aside0 (gb571 ≠ gb544) := ⟨h11_⟩
                   have n12_ : Aside0 (gb553 ≠ gb571) := ⟨h12_⟩
                   have n13_ : Aside0 (gb571 ≠ gb553) := ⟨h13_⟩
                   have n14_ : Aside0 (gb554 ≠ gb571) := ⟨h14_⟩
                   have n15_ : Aside0 (gb571 ≠ gb554) := ⟨h15_⟩
                   have n16_ : Aside0 (gb559 ≠ gb571) := ⟨h16_⟩
                   have n17_ : Aside0 (gb571 ≠ gb559) := ⟨h17_⟩
                   have n18_ : Aside0 (gb562 ≠ gb571) := ⟨h18_⟩
                   have n19_ : Aside0 (gb571 ≠ gb562) := ⟨h19_⟩
                   have n20_ : Aside0 (Below w.heap.size w w83) := ⟨h20_⟩
                   clear HO_13
                   clear HO_50
                   clear BK544
                   clear BK553
                   clear BK554
                   clear BK559
                   clear BK562
                   clear HB
                   clear h0_ h1_ h2_ h3_ h4_ h5_ h6_ h7_ h8_ h9_ h10_ h11_ h12_ h13_ h14_ h15_ h16_ h17_ h18_ h19_ h20_
                   have HO_13 := n0_
                   have HO_50 := n1_
                   have BK544 := n2_
                   have BK553 := n3_
                   have BK554 := n4_
                   have BK559 := n5_
                   have BK562 := n6_
                   have BK571 := n7_
                   have GW571 := n8_
                   have GE571 := n9_
                   have NB544_571 := n10_
                   have NB571_544 := n11_
                   have NB553_571 := n12_
                   have NB571_553 := n13_
                   have NB554_571 := n14_
                   have NB571_554 := n15_
                   have NB559_571 := n16_
                   have NB571_559 := n17_
                   have NB562_571 := n18_
                   have NB571_562 := n19_
                   have HB := n20_
                   clear n0_ n1_ n2_ n3_ n4_ n5_ n6_ n7_ n8_ n9_ n10_ n11_ n12_ n13_ n14_ n15_ n16_ n17_ n18_ n19_ n20_
                   have hHeld : w83.cell? ⟨gb559, 0, none⟩ = some (.int .i64 ((rd_T44 l2 x52_2).f0.f0)) ∧ w83.cell? ⟨gb559, 1, none⟩ = some (.int .i64 ((rd_T44 l2 x52_2).f0.f1)) ∧ w83.cell? ⟨gb559, 2, none⟩ = some (.int .i64 ((rd_T44 l2 x52_2).f0.f2)) ∧ w83.cell? ⟨gb559, 3, none⟩ = some (.int .i64 ((rd_T44 l2 x52_2).f0.f3)) ∧ w83.cell? ⟨gb559, 4, none⟩ = some (.int .i64 ((rd_T44 l2 x52_2).f1.f0)) ∧ w83.cell? ⟨gb559, 5, none⟩ = some (.int .i64 ((rd_T44 l2 x52_2).f1.f1)) ∧ w83.cell? ⟨gb553, 0, none⟩ = some (.int .i64 t549) ∧ w83.cell? ⟨gb553, 1, none⟩ = some (.int .i64 t550) ∧ w83.cell? ⟨gb554, 0, none⟩ = some (.int .i64 t551) ∧ w83.cell? ⟨gb554, 1, none⟩ = some (.int .i64 t552) := hS_
                   refine norm_ (a' := ?_) ?_ ?_
                   rotate_left
                   ·simp only [putAll, Act.put, sA, sB, sC]
                    rfl
                   refine ro 14 (some 108) (bs 19 163839) HT_ (fun K hK => ?_)
                   refine gs Try.func19 #[.agg #[.int .i64 t551, .int .i64 t552], .int .i64 (Int.tmod x91_4 (wrap64 ((wrap64 (2 - ((rd_T44 l2 x52_2).f0.f0))) - ((rd_T44 l2 x52_2).f0.f3))))] ?_
                   with_reducible refine (impl_Vec_times.calls _ _ _ _ _ _ A72.out).mono ?_
                   rintro e w84 ⟨rfl, hb⟩
                   refine ⟨_, rfl, ?_⟩
                   replace HO_13 := asd (mapVe.MS_via HO_13.out (by (with_reducible repeat (first | apply mapVe.MS_alloc | apply mapVe.MS_drewN | apply mapVe.MS_drew)); exact HO_13.out) hb)
                   replace HO_50 := asd (Kd.V_below (by (with_reducible repeat (first | apply Kd.V_alloc | apply Kd.V_drewN | apply Kd.V_drew)); exact HO_50.out) hb)
                   replace BK544 := bB BK544 hb
                   replace BK553 := bB BK553 hb
                   replace BK554 := bB BK554 hb
                   replace BK559 := bB BK559 hb
                   replace BK562 := bB BK562 hb
                   replace BK571 := bB BK571 hb
                   replace HB := asd (below_step (by repeat (first | (with_reducible first | exact HB.out | apply below_alloc | apply pw_below_drewN | apply below_drew1 | refine below_set ?_ GE544.out | refine below_set ?_ GE553.out | refine below_set ?_ GE554.out | refine below_set ?_ GE559.out | refine below_set ?_ GE562.out | refine below_set ?_ GE571.out) | exact HB.out)) hb)
                   (try clear hb)
                   (try clear hb2)
                   (try clear hk)
                   (try clear hi)
                   refine hK.out _ _ (cb6 BK559 (cb2 BK553 (eb2 BK554))).out (fun hHeld => ?_)
                   clear hK K
                   refine norm_ (a' := ?_) ?_ ?_
                   rotate_left
                   ·show Act.put _ (some 108) _ = _
                    simp only [Act.put, sA, sB, sC, i64_w, i32_w]
                    rfl
                   exact norm_ (by first | (simp only [putAll, Act.put, sA, sB, sC]; done) | (simp only [putAll, Act.put, sA, sB, sC]; rfl)) (hJ8_9_14_17 (gb571) _ ⟨hHeld, (by (with_reducible repeat (first | apply mapVe.MS_alloc | apply mapVe.MS_drewN | apply mapVe.MS_drew)); exact HO_13.out), (by (with_reducible repeat (first | apply Kd.V_alloc | apply Kd.V_drewN | apply Kd.V_drew)); exact HO_50.out), (bkp BK544), (bkp BK553), (bkp BK554), (bkp BK559), (bkp BK562), (bkp BK571), GW571.out, GE571.out, NB544_571.out, NB571_544.out, NB553_571.out, NB571_553.out, NB554_571.out, NB571_554.out, NB559_571.out, NB571_559.out, NB562_571.out, NB571_562.out, (by repeat (first | (with_reducible first | exact HB.out | apply below_alloc | apply pw_below_drewN | apply below_drew1 | refine below_set ?_ GE544.out | refine below_set ?_ GE553.out | refine below_set ?_ GE554.out | refine below_set ?_ GE559.out | refine below_set ?_ GE562.out | refine below_set ?_ GE571.out) | exact HB.out))⟩)
                 ·skip
                  rintro _ w83 ⟨hS_, h0_, h1_, h2_, h3_, h4_, h5_, h6_, h7_⟩
                  have n0_ : Aside0 (mapVe.MS w83 gbM x13_4) := ⟨h0_⟩
                  have n1_ : Aside0 (Kd.V k44 44 w83 w.heap.size (fun k_ => (P2_ k_ ∨ w.heap.size ≤ k_) ∧ k_ ≠ gbM ∧ k_ ≠ gb544 ∧ k_ ≠ gb553 ∧ k_ ≠ gb554 ∧ k_ ≠ gb559 ∧ k_ ≠ gb562) (.slice (some ad558) l2.length c2) l2) := ⟨h1_⟩
                  have n2_ : Aside0 (w83.heap[gb544]? = some (.cells #[.int .i64 a1_0, .int .i64 a1_1, .int .i64 a1_2] 28 (0, 0))) := ⟨h2_⟩
                  have n3_ : Aside0 (w83.heap[gb553]? = some (.cells #[.int .i64 t549, .int .i64 t550] 42 (0, 0))) := ⟨h3_⟩
                  have n4_ : Aside0 (w83.heap[gb554]? = some (.cells #[.int .i64 t551, .int .i64 t552] 42 (0, 0))) := ⟨h4_⟩
                  have n5_ : Aside0 (w83.heap[gb559]? = some (.cells #[.int .i64 ((rd_T44 l2 x52_2).f0.f0), .int .i64 ((rd_T44 l2 x52_2).f0.f1), .int .i64 ((rd_T44 l2 x52_2).f0.f2), .int .i64 ((rd_T44 l2 x52_2).f0.f3), .int .i64 ((rd_T44 l2 x52_2).f1.f0), .int .i64 ((rd_T44 l2 x52_2).f1.f1)] 44 (0, 0))) := ⟨h5_⟩
                  have n6_ : Aside0 (w83.heap[gb562]? = some (.cells #[.int .i64 (wrap64 ((wrap64 ((wrap64 (2 - ((rd_T44 l2 x52_2).f0.f0))) - ((rd_T44 l2 x52_2).f0.f3))) * a1_0)), .int .i64 (wrap64 ((wrap64 ((wrap64 (2 - ((rd_T44 l2 x52_2).f0.f0))) - ((rd_T44 l2 x52_2).f0.f3))) * a1_1)), .int .i64 (wrap64 ((wrap64 ((wrap64 (2 - ((rd_T44 l2 x52_2).f0.f0))) - ((rd_T44 l2 x52_2).f0.f3))) * a1_2))] 28 (0, 0))) := ⟨h6_⟩
                  have n7_ : Aside0 (Below w.heap.size w w83) := ⟨h7_⟩
                  clear HO_13
                  clear HO_50
                  clear BK544
                  clear BK553
                  clear BK554
                  clear BK559
                  clear BK562
                  clear HB
                  clear h0_ h1_ h2_ h3_ h4_ h5_ h6_ h7_
                  have HO_13 := n0_
                  have HO_50 := n1_
                  have BK544 := n2_
                  have BK553 := n3_
                  have BK554 := n4_
                  have BK559 := n5_
                  have BK562 := n6_
                  have HB := n7_
                  clear n0_ n1_ n2_ n3_ n4_ n5_ n6_ n7_
                  have hHeld : w83.cell? ⟨gb559, 0, none⟩ = some (.int .i64 ((rd_T44 l2 x52_2).f0.f0)) ∧ w83.cell? ⟨gb559, 1, none⟩ = some (.int .i64 ((rd_T44 l2 x52_2).f0.f1)) ∧ w83.cell? ⟨gb559, 2, none⟩ = some (.int .i64 ((rd_T44 l2 x52_2).f0.f2)) ∧ w83.cell? ⟨gb559, 3, none⟩ = some (.int .i64 ((rd_T44 l2 x52_2).f0.f3)) ∧ w83.cell? ⟨gb559, 4, none⟩ = some (.int .i64 ((rd_T44 l2 x52_2).f1.f0)) ∧ w83.cell? ⟨gb559, 5, none⟩ = some (.int .i64 ((rd_T44 l2 x52_2).f1.f1)) ∧ w83.cell? ⟨gb553, 0, none⟩ = some (.int .i64 t549) ∧ w83.cell? ⟨gb553, 1, none⟩ = some (.int .i64 t550) ∧ w83.cell? ⟨gb554, 0, none⟩ = some (.int .i64 t551) ∧ w83.cell? ⟨gb554, 1, none⟩ = some (.int .i64 t552) := hS_
                  refine norm_ (a' := ?_) ?_ ?_
                  rotate_left
                  ·simp only [putAll, Act.put, sA, sB, sC]
                   rfl
                  refine two_ (i := 15) (j := 17) (Ni := some 109) (Nj := some 19) (bT 19 16) (bs 19 163839) rfl rfl rfl rfl (two_of HT_.out (by kernel_rfl)) (by decide) (by decide) (fun K hK => ?_) (fun K hK => ?_)
                  ·skip
                   refine gs Try.func18 #[.agg #[.int .i64 t565, .int .i64 t566], .agg #[.int .i64 t567, .int .i64 t568]] ?_
                   with_reducible refine (impl_Vec_add.calls _ _ _ _ _ _ _ A73.out).mono ?_
                   rintro e w84 ⟨rfl, hb⟩
                   refine ⟨_, rfl, ?_⟩
                   replace HO_13 := asd (mapVe.MS_via HO_13.out (by (with_reducible repeat (first | apply mapVe.MS_alloc | apply mapVe.MS_drewN | apply mapVe.MS_drew)); exact HO_13.out) hb)
                   replace HO_50 := asd (Kd.V_below (by (with_reducible repeat (first | apply Kd.V_alloc | apply Kd.V_drewN | apply Kd.V_drew)); exact HO_50.out) hb)
                   replace BK544 := bB BK544 hb
                   replace BK553 := bB BK553 hb
                   replace BK554 := bB BK554 hb
                   replace BK559 := bB BK559 hb
                   replace BK562 := bB BK562 hb
                   replace HB := asd (below_step (by repeat (first | (with_reducible first | exact HB.out | apply below_alloc | apply pw_below_drewN | apply below_drew1 | refine below_set ?_ GE544.out | refine below_set ?_ GE553.out | refine below_set ?_ GE554.out | refine below_set ?_ GE559.out | refine below_set ?_ GE562.out) | exact HB.out)) hb)
                   (try clear hb)
                   (try clear hb2)
                   (try clear hk)
                   (try clear hi)
                   refine hK.out _ _ (cb6 BK559 (cb2 BK553 (eb2 BK554))).out (fun hHeld => ?_)
                   clear hK K
                   refine norm_ (a' := ?_) ?_ ?_
                   rotate_left
                   ·show Act.put _ (some 109) _ = _
                    simp only [Act.put, sA, sB, sC, i64_w, i32_w]
                    rfl
                   refine pu 16 (some 110) (bT 19 17) HT_ ?_
                   exact norm_ (by first | (simp only [putAll, Act.put, sA, sB, sC]; done) | (simp only [putAll, Act.put, sA, sB, sC]; rfl)) (hJ8_9_14_15 () _ ⟨hHeld, (by (with_reducible repeat (first | apply mapVe.MS_alloc | apply mapVe.MS_drewN | apply mapVe.MS_drew)); exact HO_13.out), (by (with_reducible repeat (first | apply Kd.V_alloc | apply Kd.V_drewN | apply Kd.V_drew)); exact HO_50.out), (bkp BK544), (bkp BK553), (bkp BK554), (bkp BK559), (bkp BK562), (by repeat (first | (with_reducible first | exact HB.out | apply below_alloc | apply pw_below_drewN | apply below_drew1 | refine below_set ?_ GE544.out | refine below_set ?_ GE553.out | refine below_set ?_ GE554.out | refine below_set ?_ GE559.out | refine below_set ?_ GE562.out) | exact HB.out))⟩)
                  ·skip
                   refine box_step ?hg (N := 19) ?hd (cs := #[.int .i64 0, .int .i64 0, .int .i64 0, .int .i64 0, .int .i64 0, .int .i64 0]) (t := 44) ?hr ?_; (case hd => rfl); (case hg => rfl); (case hr => first | (go_simp; done) | (go_simp; rfl))
                   intro gb571 hg w84 hbox hb
                   replace HO_13 := asd (mapVe.MS_via HO_13.out (by (with_reducible repeat (first | apply mapVe.MS_alloc | apply mapVe.MS_drewN | apply mapVe.MS_drew)); exact HO_13.out) hb)
                   replace HO_50 := asd (Kd.V_below (Kd.V_elderB (by (with_reducible repeat (first | apply Kd.V_alloc | apply Kd.V_drewN | apply Kd.V_drew)); exact HO_50.out) gb571 (Nat.le_of_eq hg.symm)) hb)
                   have BK571 := asd (hbox)
                   have GW571 := asd ((by rw [hg]; exact (below_size (by repeat (first | (with_reducible first | exact HB.out | apply below_alloc | apply pw_below_drewN | apply below_drew1 | refine below_set ?_ GE544.out | refine below_set ?_ GE553.out | refine below_set ?_ GE554.out | refine below_set ?_ GE559.out | refine below_set ?_ GE562.out) | exact HB.out))) : w.heap.size ≤ gb571))
                   have GE571 := asd ((by rw [hg]; exact (below_size (by repeat (first | (with_reducible first | exact HB.out | apply below_alloc | apply pw_below_drewN | apply below_drew1 | refine below_set ?_ GE544.out | refine below_set ?_ GE553.out | refine below_set ?_ GE554.out | refine below_set ?_ GE559.out | refine below_set ?_ GE562.out) | exact HB.out))) : w.heap.size ≤ gb571))
                   replace HB := asd (below_step (by repeat (first | (with_reducible first | exact HB.out | apply below_alloc | apply pw_below_drewN | apply below_drew1 | refine below_set ?_ GE544.out | refine below_set ?_ GE553.out | refine below_set ?_ GE554.out | refine below_set ?_ GE559.out | refine below_set ?_ GE562.out) | exact HB.out)) hb)
                   have NB544_571 := nlt hg BK544
                   have NB571_544 := nsy (nlt hg BK544)
                   replace BK544 := bB BK544 hb
                   have NB553_571 := nlt hg BK553
                   have NB571_553 := nsy (nlt hg BK553)
                   replace BK553 := bB BK553 hb
                   have NB554_571 := nlt hg BK554
                   have NB571_554 := nsy (nlt hg BK554)
                   replace BK554 := bB BK554 hb
                   have NB559_571 := nlt hg BK559
                   have NB571_559 := nsy (nlt hg BK559)
                   replace BK559 := bB BK559 hb
                   have NB562_571 := nlt hg BK562
                   have NB571_562 := nsy (nlt hg BK562)
                   replace BK562 := bB BK562 hb
                   clear hb hbox hg
                   refine hK.out _ _ (cb6 BK559 (cb2 BK553 (eb2 BK554))).out (fun hHeld => ?_)
                   clear hK K
                   refine norm_ (a' := ?_) ?_ ?_
                   rotate_left
                   ·show Act.put _ (some 19) _ = _
                    simp only [Act.put, sA, sB, sC, i64_w, i32_w]
                    rfl
                   exact norm_ (by first | (simp only [putAll, Act.put, sA, sB, sC]; done) | (simp only [putAll, Act.put, sA, sB, sC]; rfl)) (hJ8_9_14_17 (gb571) _ ⟨hHeld, (by (with_reducible repeat (first | apply mapVe.MS_alloc | apply mapVe.MS_drewN | apply mapVe.MS_drew)); exact HO_13.out), (by (with_reducible repeat (first | apply Kd.V_alloc | apply Kd.V_drewN | apply Kd.V_drew)); exact Kd.V_mono HO_50.out (fun _ hk => ⟨hk.1.1, ⟨hk.1.2.1, ⟨hk.1.2.2.1, ⟨hk.1.2.2.2.1, ⟨hk.1.2.2.2.2.1, ⟨hk.1.2.2.2.2.2.1, ⟨hk.1.2.2.2.2.2.2, hk.2⟩⟩⟩⟩⟩⟩⟩)), (bkp BK544), (bkp BK553), (bkp BK554), (bkp BK559), (bkp BK562), (bkp BK571), GW571.out, GE571.out, NB544_571.out, NB571_544.out, NB553_571.out, NB571_553.out, NB554_571.out, NB571_554.out, NB559_571.out, NB571_559.out, NB562_571.out, NB571_562.out, (by repeat (first | (with_reducible first | exact HB.out | apply below_alloc | apply pw_below_drewN | apply below_drew1 | refine below_set ?_ GE544.out | refine below_set ?_ GE553.out | refine below_set ?_ GE554.out | refine below_set ?_ GE559.out | refine below_set ?_ GE562.out | refine below_set ?_ GE571.out) | exact HB.out))⟩)
                ·skip
                 rintro gb571 w84 ⟨hS_, h0_, h1_, h2_, h3_, h4_, h5_, h6_, h7_, h8_, h9_, h10_, h11_, h12_, h13_, h14_, h15_, h16_, h17_, h18_, h19_, h20_⟩
                 have n0_ : Aside0 (mapVe.MS w84 gbM x13_4) := ⟨h0_⟩
                 have n1_ : Aside0 (Kd.V k44 44 w84 w.heap.size (fun k_ => (P2_ k_ ∨ w.heap.size ≤ k_) ∧ k_ ≠ gbM ∧ k_ ≠ gb544 ∧ k_ ≠ gb553 ∧ k_ ≠ gb554 ∧ k_ ≠ gb559 ∧ k_ ≠ gb562 ∧ k_ ≠ gb571) (.slice (some ad558) l2.length c2) l2) := ⟨h1_⟩
                 have n2_ : Aside0 (w84.heap[gb544]? = some (.cells #[.int .i64 a1_0, .int .i64 a1_1, .int .i64 a1_2] 28 (0, 0))) := ⟨h2_⟩
                 have n3_ : Aside0 (w84.heap[gb553]? = some (.cells #[.int .i64 t549, .int .i64 t550] 42 (0, 0))) := ⟨h3_⟩
                 have n4_ : Aside0 (w84.heap[gb554]? = some (.cells #[.int .i64 t551, .int .i64 t552] 42 (0, 0))) := ⟨h4_⟩
                 have n5_ : Aside0 (w84.heap[gb559]? = some (.cells #[.int .i64 ((rd_T44 l2 x52_2).f0.f0), .int .i64 ((rd_T44 l2 x52_2).f0.f1), .int .i64 ((rd_T44 l2 x52_2).f0.f2), .int .i64 ((rd_T44 l2 x52_2).f0.f3), .int .i64 ((rd_T44 l2 x52_2).f1.f0), .int .i64 ((rd_T44 l2 x52_2).f1.f1)] 44 (0, 0))) := ⟨h5_⟩
                 have n6_ : Aside0 (w84.heap[gb562]? = some (.cells #[.int .i64 (wrap64 ((wrap64 ((wrap64 (2 - ((rd_T44 l2 x52_2).f0.f0))) - ((rd_T44 l2 x52_2).f0.f3))) * a1_0)), .int .i64 (wrap64 ((wrap64 ((wrap64 (2 - ((rd_T44 l2 x52_2).f0.f0))) - ((rd_T44 l2 x52_2).f0.f3))) * a1_1)), .int .i64 (wrap64 ((wrap64 ((wrap64 (2 - ((rd_T44 l2 x52_2).f0.f0))) - ((rd_T44 l2 x52_2).f0.f3))) * a1_2))] 28 (0, 0))) := ⟨h6_⟩
                 have n7_ : Aside0 (w84.heap[gb571]? = some (.cells #[.int .i64 0, .int .i64 0, .int .i64 0, .int .i64 0, .int .i64 0, .int .i64 0] 44 (0, 0))) := ⟨h7_⟩
                 have n8_ : Aside0 (w.heap.size ≤ gb571) := ⟨h8_⟩
                 have n9_ : Aside0 (w.heap.size ≤ gb571) := ⟨h9_⟩
                 have n10_ : Aside0 (gb544 ≠ gb571) := ⟨h10_⟩
                 have n11_ : Aside0 (gb571 ≠ gb544) := ⟨h11_⟩
                 have n12_ : Aside0 (gb553 ≠ gb571) := ⟨h12_⟩
                 have n13_ : Aside0 (gb571 ≠ gb553) := ⟨h13_⟩
                 have n14_ : Aside0 (gb554 ≠ gb571) := ⟨h14_⟩
                 have n15_ : Aside0 (gb571 ≠ gb554) := ⟨h15_⟩
                 have n16_ : Aside0 (gb559 ≠ gb571) := ⟨h16_⟩
                 have n17_ : Aside0 (gb571 ≠ gb559) := ⟨h17_⟩
                 have n18_ : Aside0 (gb562 ≠ gb571) := ⟨h18_⟩
                 have n19_ : Aside0 (gb571 ≠ gb562) := ⟨h19_⟩
                 have n20_ : Aside0 (Below w.heap.size w w84) := ⟨h20_⟩
                 clear HO_13
                 clear HO_50
                 clear BK544
                 clear BK553
                 clear BK554
                 clear BK559
                 clear BK562
                 clear HB
                 clear h0_ h1_ h2_ h3_ h4_ h5_ h6_ h7_ h8_ h9_ h10_ h11_ h12_ h13_ h14_ h15_ h16_ h17_ h18_ h19_ h20_
                 have HO_13 := n0_
                 have HO_50 := n1_
                 have BK544 := n2_
                 have BK553 := n3_
                 have BK554 := n4_
                 have BK559 := n5_
                 have BK562 := n6_
                 have BK571 := n7_
                 have GW571 := n8_
                 have GE571 := n9_
                 have NB544_571 := n10_
                 have NB571_544 := n11_
                 have NB553_571 := n12_
                 have NB571_553 := n13_
                 have NB554_571 := n14_
                 have NB571_554 := n15_
                 have NB559_571 := n16_
                 have NB571_559 := n17_
                 have NB562_571 := n18_
                 have NB571_562 := n19_
                 have HB := n20_
                 clear n0_ n1_ n2_ n3_ n4_ n5_ n6_ n7_ n8_ n9_ n10_ n11_ n12_ n13_ n14_ n15_ n16_ n17_ n18_ n19_ n20_
                 have hHeld : w84.cell? ⟨gb559, 0, none⟩ = some (.int .i64 ((rd_T44 l2 x52_2).f0.f0)) ∧ w84.cell? ⟨gb559, 1, none⟩ = some (.int .i64 ((rd_T44 l2 x52_2).f0.f1)) ∧ w84.cell? ⟨gb559, 2, none⟩ = some (.int .i64 ((rd_T44 l2 x52_2).f0.f2)) ∧ w84.cell? ⟨gb559, 3, none⟩ = some (.int .i64 ((rd_T44 l2 x52_2).f0.f3)) ∧ w84.cell? ⟨gb559, 4, none⟩ = some (.int .i64 ((rd_T44 l2 x52_2).f1.f0)) ∧ w84.cell? ⟨gb559, 5, none⟩ = some (.int .i64 ((rd_T44 l2 x52_2).f1.f1)) ∧ w84.cell? ⟨gb553, 0, none⟩ = some (.int .i64 t549) ∧ w84.cell? ⟨gb553, 1, none⟩ = some (.int .i64 t550) ∧ w84.cell? ⟨gb554, 0, none⟩ = some (.int .i64 t551) ∧ w84.cell? ⟨gb554, 1, none⟩ = some (.int .i64 t552) := hS_
                 refine norm_ (a' := ?_) ?_ ?_
                 rotate_left
                 ·simp only [putAll, Act.put, sA, sB, sC]
                  rfl
                 refine ro 15 (some 109) (bs 19 196607) HT_ (fun K hK => ?_)
                 refine gs Try.func18 #[.agg #[.int .i64 t565, .int .i64 t566], .agg #[.int .i64 t567, .int .i64 t568]] ?_
                 with_reducible refine (impl_Vec_add.calls _ _ _ _ _ _ _ A73.out).mono ?_
                 rintro e w85 ⟨rfl, hb⟩
                 refine ⟨_, rfl, ?_⟩
                 replace HO_13 := asd (mapVe.MS_via HO_13.out (by (with_reducible repeat (first | apply mapVe.MS_alloc | apply mapVe.MS_drewN | apply mapVe.MS_drew)); exact HO_13.out) hb)
                 replace HO_50 := asd (Kd.V_below (by (with_reducible repeat (first | apply Kd.V_alloc | apply Kd.V_drewN | apply Kd.V_drew)); exact HO_50.out) hb)
                 replace BK544 := bB BK544 hb
                 replace BK553 := bB BK553 hb
                 replace BK554 := bB BK554 hb
                 replace BK559 := bB BK559 hb
                 replace BK562 := bB BK562 hb
                 replace BK571 := bB BK571 hb
                 replace HB := asd (below_step (by repeat (first | (with_reducible first | exact HB.out | apply below_alloc | apply pw_below_drewN | apply below_drew1 | refine below_set ?_ GE544.out | refine below_set ?_ GE553.out | refine below_set ?_ GE554.out | refine below_set ?_ GE559.out | refine below_set ?_ GE562.out | refine below_set ?_ GE571.out) | exact HB.out)) hb)
                 (try clear hb)
                 (try clear hb2)
                 (try clear hk)
                 (try clear hi)
                 refine hK.out _ _ (cb6 BK559 (cb2 BK553 (eb2 BK554))).out (fun hHeld => ?_)
                 clear hK K
                 refine norm_ (a' := ?_) ?_ ?_
                 rotate_left
                 ·show Act.put _ (some 109) _ = _
                  simp only [Act.put, sA, sB, sC, i64_w, i32_w]
                  rfl
                 refine pu 16 (some 110) (bT 19 18) HT_ ?_
                 exact norm_ (by first | (simp only [putAll, Act.put, sA, sB, sC]; done) | (simp only [putAll, Act.put, sA, sB, sC]; rfl)) (hJ8_9_14_15_17 (gb571) _ ⟨hHeld, (by (with_reducible repeat (first | apply mapVe.MS_alloc | apply mapVe.MS_drewN | apply mapVe.MS_drew)); exact HO_13.out), (by (with_reducible repeat (first | apply Kd.V_alloc | apply Kd.V_drewN | apply Kd.V_drew)); exact HO_50.out), (bkp BK544), (bkp BK553), (bkp BK554), (bkp BK559), (bkp BK562), (bkp BK571), GW571.out, GE571.out, NB544_571.out, NB571_544.out, NB553_571.out, NB571_553.out, NB554_571.out, NB571_554.out, NB559_571.out, NB571_559.out, NB562_571.out, NB571_562.out, (by repeat (first | (with_reducible first | exact HB.out | apply below_alloc | apply pw_below_drewN | apply below_drew1 | refine below_set ?_ GE544.out | refine below_set ?_ GE553.out | refine below_set ?_ GE554.out | refine below_set ?_ GE559.out | refine below_set ?_ GE562.out | refine below_set ?_ GE571.out) | exact HB.out))⟩)
               ·skip
                rintro _ w84 ⟨hS_, h0_, h1_, h2_, h3_, h4_, h5_, h6_, h7_⟩
                have n0_ : Aside0 (mapVe.MS w84 gbM x13_4) := ⟨h0_⟩
                have n1_ : Aside0 (Kd.V k44 44 w84 w.heap.size (fun k_ => (P2_ k_ ∨ w.heap.size ≤ k_) ∧ k_ ≠ gbM ∧ k_ ≠ gb544 ∧ k_ ≠ gb553 ∧ k_ ≠ gb554 ∧ k_ ≠ gb559 ∧ k_ ≠ gb562) (.slice (some ad558) l2.length c2) l2) := ⟨h1_⟩
                have n2_ : Aside0 (w84.heap[gb544]? = some (.cells #[.int .i64 a1_0, .int .i64 a1_1, .int .i64 a1_2] 28 (0, 0))) := ⟨h2_⟩
                have n3_ : Aside0 (w84.heap[gb553]? = some (.cells #[.int .i64 t549, .int .i64 t550] 42 (0, 0))) := ⟨h3_⟩
                have n4_ : Aside0 (w84.heap[gb554]? = some (.cells #[.int .i64 t551, .int .i64 t552] 42 (0, 0))) := ⟨h4_⟩
                have n5_ : Aside0 (w84.heap[gb559]? = some (.cells #[.int .i64 ((rd_T44 l2 x52_2).f0.f0), .int .i64 ((rd_T44 l2 x52_2).f0.f1), .int .i64 ((rd_T44 l2 x52_2).f0.f2), .int .i64 ((rd_T44 l2 x52_2).f0.f3), .int .i64 ((rd_T44 l2 x52_2).f1.f0), .int .i64 ((rd_T44 l2 x52_2).f1.f1)] 44 (0, 0))) := ⟨h5_⟩
                have n6_ : Aside0 (w84.heap[gb562]? = some (.cells #[.int .i64 (wrap64 ((wrap64 ((wrap64 (2 - ((rd_T44 l2 x52_2).f0.f0))) - ((rd_T44 l2 x52_2).f0.f3))) * a1_0)), .int .i64 (wrap64 ((wrap64 ((wrap64 (2 - ((rd_T44 l2 x52_2).f0.f0))) - ((rd_T44 l2 x52_2).f0.f3))) * a1_1)), .int .i64 (wrap64 ((wrap64 ((wrap64 (2 - ((rd_T44 l2 x52_2).f0.f0))) - ((rd_T44 l2 x52_2).f0.f3))) * a1_2))] 28 (0, 0))) := ⟨h6_⟩
                have n7_ : Aside0 (Below w.heap.size w w84) := ⟨h7_⟩
                clear HO_13
                clear HO_50
                clear BK544
                clear BK553
                clear BK554
                clear BK559
                clear BK562
                clear HB
                clear h0_ h1_ h2_ h3_ h4_ h5_ h6_ h7_
                have HO_13 := n0_
                have HO_50 := n1_
                have BK544 := n2_
                have BK553 := n3_
                have BK554 := n4_
                have BK559 := n5_
                have BK562 := n6_
                have HB := n7_
                clear n0_ n1_ n2_ n3_ n4_ n5_ n6_ n7_
                have hHeld : w84.cell? ⟨gb559, 0, none⟩ = some (.int .i64 ((rd_T44 l2 x52_2).f0.f0)) ∧ w84.cell? ⟨gb559, 1, none⟩ = some (.int .i64 ((rd_T44 l2 x52_2).f0.f1)) ∧ w84.cell? ⟨gb559, 2, none⟩ = some (.int .i64 ((rd_T44 l2 x52_2).f0.f2)) ∧ w84.cell? ⟨gb559, 3, none⟩ = some (.int .i64 ((rd_T44 l2 x52_2).f0.f3)) ∧ w84.cell? ⟨gb559, 4, none⟩ = some (.int .i64 ((rd_T44 l2 x52_2).f1.f0)) ∧ w84.cell? ⟨gb559, 5, none⟩ = some (.int .i64 ((rd_T44 l2 x52_2).f1.f1)) ∧ w84.cell? ⟨gb553, 0, none⟩ = some (.int .i64 t549) ∧ w84.cell? ⟨gb553, 1, none⟩ = some (.int .i64 t550) ∧ w84.cell? ⟨gb554, 0, none⟩ = some (.int .i64 t551) ∧ w84.cell? ⟨gb554, 1, none⟩ = some (.int .i64 t552) := hS_
                refine norm_ (a' := ?_) ?_ ?_
                rotate_left
                ·simp only [putAll, Act.put, sA, sB, sC]
                 rfl
                refine ro 17 (some 19) (bT 19 18) HT_ (fun K hK => ?_)
                refine box_step ?hg (N := 19) ?hd (cs := #[.int .i64 0, .int .i64 0, .int .i64 0, .int .i64 0, .int .i64 0, .int .i64 0]) (t := 44) ?hr ?_; (case hd => rfl); (case hg => rfl); (case hr => first | (go_simp; done) | (go_simp; rfl))
                intro gb571 hg w85 hbox hb
                replace HO_13 := asd (mapVe.MS_via HO_13.out (by (with_reducible repeat (first | apply mapVe.MS_alloc | apply mapVe.MS_drewN | apply mapVe.MS_drew)); exact HO_13.out) hb)
                replace HO_50 := asd (Kd.V_below (Kd.V_elderB (by (with_reducible repeat (first | apply Kd.V_alloc | apply Kd.V_drewN | apply Kd.V_drew)); exact HO_50.out) gb571 (Nat.le_of_eq hg.symm)) hb)
                have BK571 := asd (hbox)
                have GW571 := asd ((by rw [hg]; exact (below_size (by repeat (first | (with_reducible first | exact HB.out | apply below_alloc | apply pw_below_drewN | apply below_drew1 | refine below_set ?_ GE544.out | refine below_set ?_ GE553.out | refine below_set ?_ GE554.out | refine below_set ?_ GE559.out | refine below_set ?_ GE562.out) | exact HB.out))) : w.heap.size ≤ gb571))
                have GE571 := asd ((by rw [hg]; exact (below_size (by repeat (first | (with_reducible first | exact HB.out | apply below_alloc | apply pw_below_drewN | apply below_drew1 | refine below_set ?_ GE544.out | refine below_set ?_ GE553.out | refine below_set ?_ GE554.out | refine below_set ?_ GE559.out | refine below_set ?_ GE562.out) | exact HB.out))) : w.heap.size ≤ gb571))
                replace HB := asd (below_step (by repeat (first | (with_reducible first | exact HB.out | apply below_alloc | apply pw_below_drewN | apply below_drew1 | refine below_set ?_ GE544.out | refine below_set ?_ GE553.out | refine below_set ?_ GE554.out | refine below_set ?_ GE559.out | refine below_set ?_ GE562.out) | exact HB.out)) hb)
                have NB544_571 := nlt hg BK544
                have NB571_544 := nsy (nlt hg BK544)
                replace BK544 := bB BK544 hb
                have NB553_571 := nlt hg BK553
                have NB571_553 := nsy (nlt hg BK553)
                replace BK553 := bB BK553 hb
                have NB554_571 := nlt hg BK554
                have NB571_554 := nsy (nlt hg BK554)
                replace BK554 := bB BK554 hb
                have NB559_571 := nlt hg BK559
                have NB571_559 := nsy (nlt hg BK559)
                replace BK559 := bB BK559 hb
                have NB562_571 := nlt hg BK562
                have NB571_562 := nsy (nlt hg BK562)
                replace BK562 := bB BK562 hb
                clear hb hbox hg
                refine hK.out _ _ (cb6 BK559 (cb2 BK553 (eb2 BK554))).out (fun hHeld => ?_)
                clear hK K
                refine norm_ (a' := ?_) ?_ ?_
                rotate_left
                ·show Act.put _ (some 19) _ = _
                 simp only [Act.put, sA, sB, sC, i64_w, i32_w]
                 rfl
                exact norm_ (by first | (simp only [putAll, Act.put, sA, sB, sC]; done) | (simp only [putAll, Act.put, sA, sB, sC]; rfl)) (hJ8_9_14_15_17 (gb571) _ ⟨hHeld, (by (with_reducible repeat (first | apply mapVe.MS_alloc | apply mapVe.MS_drewN | apply mapVe.MS_drew)); exact HO_13.out), (by (with_reducible repeat (first | apply Kd.V_alloc | apply Kd.V_drewN | apply Kd.V_drew)); exact Kd.V_mono HO_50.out (fun _ hk => ⟨hk.1.1, ⟨hk.1.2.1, ⟨hk.1.2.2.1, ⟨hk.1.2.2.2.1, ⟨hk.1.2.2.2.2.1, ⟨hk.1.2.2.2.2.2.1, ⟨hk.1.2.2.2.2.2.2, hk.2⟩⟩⟩⟩⟩⟩⟩)), (bkp BK544), (bkp BK553), (bkp BK554), (bkp BK559), (bkp BK562), (bkp BK571), GW571.out, GE571.out, NB544_571.out, NB571_544.out, NB553_571.out, NB571_553.out, NB554_571.out, NB571_554.out, NB559_571.out, NB571_559.out, NB562_571.out, NB571_562.out, (by repeat (first | (with_reducible first | exact HB.out | apply below_alloc | apply pw_below_drewN | apply below_drew1 | refine below_set ?_ GE544.out | refine below_set ?_ GE553.out | refine below_set ?_ GE554.out | refine below_set ?_ GE559.out | refine below_set ?_ GE562.out | refine below_set ?_ GE571.out) | exact HB.out))⟩)
              rintro gb571 w85 ⟨hS_, h0_, h1_, h2_, h3_, h4_, h5_, h6_, h7_, h8_, h9_, h10_, h11_, h12_, h13_, h14_, h15_, h16_, h17_, h18_, h19_, h20_⟩
              have n0_ : Aside0 (mapVe.MS w85 gbM x13_4) := ⟨h0_⟩
              have n1_ : Aside0 (Kd.V k44 44 w85 w.heap.size (fun k_ => (P2_ k_ ∨ w.heap.size ≤ k_) ∧ k_ ≠ gbM ∧ k_ ≠ gb544 ∧ k_ ≠ gb553 ∧ k_ ≠ gb554 ∧ k_ ≠ gb559 ∧ k_ ≠ gb562 ∧ k_ ≠ gb571) (.slice (some ad558) l2.length c2) l2) := ⟨h1_⟩
              have n2_ : Aside0 (w85.heap[gb544]? = some (.cells #[.int .i64 a1_0, .int .i64 a1_1, .int .i64 a1_2] 28 (0, 0))) := ⟨h2_⟩
              have n3_ : Aside0 (w85.heap[gb553]? = some (.cells #[.int .i64 t549, .int .i64 t550] 42 (0, 0))) := ⟨h3_⟩
              have n4_ : Aside0 (w85.heap[gb554]? = some (.cells #[.int .i64 t551, .int .i64 t552] 42 (0, 0))) := ⟨h4_⟩
              have n5_ : Aside0 (w85.heap[gb559]? = some (.cells #[.int .i64 ((rd_T44 l2 x52_2).f0.f0), .int .i64 ((rd_T44 l2 x52_2).f0.f1), .int .i64 ((rd_T44 l2 x52_2).f0.f2), .int .i64 ((rd_T44 l2 x52_2).f0.f3), .int .i64 ((rd_T44 l2 x52_2).f1.f0), .int .i64 ((rd_T44 l2 x52_2).f1.f1)] 44 (0, 0))) := ⟨h5_⟩
              have n6_ : Aside0 (w85.heap[gb562]? = some (.cells #[.int .i64 (wrap64 ((wrap64 ((wrap64 (2 - ((rd_T44 l2 x52_2).f0.f0))) - ((rd_T44 l2 x52_2).f0.f3))) * a1_0)), .int .i64 (wrap64 ((wrap64 ((wrap64 (2 - ((rd_T44 l2 x52_2).f0.f0))) - ((rd_T44 l2 x52_2).f0.f3))) * a1_1)), .int .i64 (wrap64 ((wrap64 ((wrap64 (2 - ((rd_T44 l2 x52_2).f0.f0))) - ((rd_T44 l2 x52_2).f0.f3))) * a1_2))] 28 (0, 0))) := ⟨h6_⟩
              have n7_ : Aside0 (w85.heap[gb571]? = some (.cells #[.int .i64 0, .int .i64 0, .int .i64 0, .int .i64 0, .int .i64 0, .int .i64 0] 44 (0, 0))) := ⟨h7_⟩
              have n8_ : Aside0 (w.heap.size ≤ gb571) := ⟨h8_⟩
              have n9_ : Aside0 (w.heap.size ≤ gb571) := ⟨h9_⟩
              have n10_ : Aside0 (gb544 ≠ gb571) := ⟨h10_⟩
              have n11_ : Aside0 (gb571 ≠ gb544) := ⟨h11_⟩
              have n12_ : Aside0 (gb553 ≠ gb571) := ⟨h12_⟩
              have n13_ : Aside0 (gb571 ≠ gb553) := ⟨h13_⟩
              have n14_ : Aside0 (gb554 ≠ gb571) := ⟨h14_⟩
              have n15_ : Aside0 (gb571 ≠ gb554) := ⟨h15_⟩
              have n16_ : Aside0 (gb559 ≠ gb571) := ⟨h16_⟩
              have n17_ : Aside0 (gb571 ≠ gb559) := ⟨h17_⟩
              have n18_ : Aside0 (gb562 ≠ gb571) := ⟨h18_⟩
              have n19_ : Aside0 (gb571 ≠ gb562) := ⟨h19_⟩
              have n20_ : Aside0 (Below w.heap.size w w85) := ⟨h20_⟩
              clear HO_13
              clear HO_50
              clear BK544
              clear BK553
              clear BK554
              clear BK559
              clear BK562
              clear HB
              clear h0_ h1_ h2_ h3_ h4_ h5_ h6_ h7_ h8_ h9_ h10_ h11_ h12_ h13_ h14_ h15_ h16_ h17_ h18_ h19_ h20_
              have HO_13 := n0_
              have HO_50 := n1_
              have BK544 := n2_
              have BK553 := n3_
              have BK554 := n4_
              have BK559 := n5_
              have BK562 := n6_
              have BK571 := n7_
              have GW571 := n8_
              have GE571 := n9_
              have NB544_571 := n10_
              have NB571_544 := n11_
              have NB553_571 := n12_
              have NB571_553 := n13_
              have NB554_571 := n14_
              have NB571_554 := n15_
              have NB559_571 := n16_
              have NB571_559 := n17_
              have NB562_571 := n18_
              have NB571_562 := n19_
              have HB := n20_
              clear n0_ n1_ n2_ n3_ n4_ n5_ n6_ n7_ n8_ n9_ n10_ n11_ n12_ n13_ n14_ n15_ n16_ n17_ n18_ n19_ n20_
              have hHeld : w85.cell? ⟨gb559, 0, none⟩ = some (.int .i64 ((rd_T44 l2 x52_2).f0.f0)) ∧ w85.cell? ⟨gb559, 1, none⟩ = some (.int .i64 ((rd_T44 l2 x52_2).f0.f1)) ∧ w85.cell? ⟨gb559, 2, none⟩ = some (.int .i64 ((rd_T44 l2 x52_2).f0.f2)) ∧ w85.cell? ⟨gb559, 3, none⟩ = some (.int .i64 ((rd_T44 l2 x52_2).f0.f3)) ∧ w85.cell? ⟨gb559, 4, none⟩ = some (.int .i64 ((rd_T44 l2 x52_2).f1.f0)) ∧ w85.cell? ⟨gb559, 5, none⟩ = some (.int .i64 ((rd_T44 l2 x52_2).f1.f1)) ∧ w85.cell? ⟨gb553, 0, none⟩ = some (.int .i64 t549) ∧ w85.cell? ⟨gb553, 1, none⟩ = some (.int .i64 t550) ∧ w85.cell? ⟨gb554, 0, none⟩ = some (.int .i64 t551) ∧ w85.cell? ⟨gb554, 1, none⟩ = some (.int .i64 t552) := hS_
              refine norm_ (a' := ?_) ?_ ?_
              rotate_left
              ·simp only [putAll, Act.put, sA, sB, sC]
               rfl
              refine ro 18 (none) (bT 19 19) HT_ (fun K hK => ?_)
              have hs86 : w85.cell? ⟨gb571, 0, none⟩ = some (.int .i64 0) := bcl BK571 0
              have hfs86 := blk_frozen BK571.out 0
              have hns86_0 := NB544_571.out
              have hns86_1 := NB553_571.out
              have hns86_2 := NB554_571.out
              have hns86_3 := NB559_571.out
              have hns86_4 := NB562_571.out
              have hms86_0 := NB571_544.out
              have hms86_1 := NB571_553.out
              have hms86_2 := NB571_554.out
              have hms86_3 := NB571_559.out
              have hms86_4 := NB571_562.out
              have hs87 : w85.cell? ⟨gb571, 1, none⟩ = some (.int .i64 0) := bcl BK571 1
              have hfs87 := blk_frozen BK571.out 1
              have hns87_0 := NB544_571.out
              have hns87_1 := NB553_571.out
              have hns87_2 := NB554_571.out
              have hns87_3 := NB559_571.out
              have hns87_4 := NB562_571.out
              have hms87_0 := NB571_544.out
              have hms87_1 := NB571_553.out
              have hms87_2 := NB571_554.out
              have hms87_3 := NB571_559.out
              have hms87_4 := NB571_562.out
              have hs88 : w85.cell? ⟨gb571, 2, none⟩ = some (.int .i64 0) := bcl BK571 2
              have hfs88 := blk_frozen BK571.out 2
              have hns88_0 := NB544_571.out
              have hns88_1 := NB553_571.out
              have hns88_2 := NB554_571.out
              have hns88_3 := NB559_571.out
              have hns88_4 := NB562_571.out
              have hms88_0 := NB571_544.out
              have hms88_1 := NB571_553.out
              have hms88_2 := NB571_554.out
              have hms88_3 := NB571_559.out
              have hms88_4 := NB571_562.out
              have hs89 : w85.cell? ⟨gb571, 3, none⟩ = some (.int .i64 0) := bcl BK571 3
              have hfs89 := blk_frozen BK571.out 3
              have hns89_0 := NB544_571.out
              have hns89_1 := NB553_571.out
              have hns89_2 := NB554_571.out
              have hns89_3 := NB559_571.out
              have hns89_4 := NB562_571.out
              have hms89_0 := NB571_544.out
              have hms89_1 := NB571_553.out
              have hms89_2 := NB571_554.out
              have hms89_3 := NB571_559.out
              have hms89_4 := NB571_562.out
              have hs90 : w85.cell? ⟨gb571, 4, none⟩ = some (.int .i64 0) := bcl BK571 4
              have hfs90 := blk_frozen BK571.out 4
              have hns90_0 := NB544_571.out
              have hns90_1 := NB553_571.out
              have hns90_2 := NB554_571.out
              have hns90_3 := NB559_571.out
              have hns90_4 := NB562_571.out
              have hms90_0 := NB571_544.out
              have hms90_1 := NB571_553.out
              have hms90_2 := NB571_554.out
              have hms90_3 := NB571_559.out
              have hms90_4 := NB571_562.out
              have hs91 : w85.cell? ⟨gb571, 5, none⟩ = some (.int .i64 0) := bcl BK571 5
              have hfs91 := blk_frozen BK571.out 5
              have hns91_0 := NB544_571.out
              have hns91_1 := NB553_571.out
              have hns91_2 := NB554_571.out
              have hns91_3 := NB559_571.out
              have hns91_4 := NB562_571.out
              have hms91_0 := NB571_544.out
              have hms91_1 := NB571_553.out
              have hms91_2 := NB571_554.out
              have hms91_3 := NB571_559.out
              have hms91_4 := NB571_562.out
              refine skip_ (w1 := ?_) (by rfl) rfl ?_ ?_
              rotate_left
              ·go_simp
               rfl
              refine hK.out _ _ ⟨(cf6 NB559_571 (hHeld.1)), (cf6 NB559_571 (hHeld.2.1)), (cf6 NB559_571 (hHeld.2.2.1)), (cf6 NB559_571 (hHeld.2.2.2.1)), (cf6 NB559_571 (hHeld.2.2.2.2.1)), (cf6 NB559_571 (hHeld.2.2.2.2.2.1)), (cf6 NB553_571 (hHeld.2.2.2.2.2.2.1)), (cf6 NB553_571 (hHeld.2.2.2.2.2.2.2.1)), (cf6 NB554_571 (hHeld.2.2.2.2.2.2.2.2.1)), (cf6 NB554_571 (hHeld.2.2.2.2.2.2.2.2.2))⟩ (fun hHeld => ?_)
              clear hK K
              refine done_ (done_of HT_.out (by kernel_rfl)) ?_
              have hnb92 := NB571_544.out
              have hnc92 := NB544_571.out
              have hnb93 := NB571_553.out
              have hnc93 := NB553_571.out
              have hnb94 := NB571_554.out
              have hnc94 := NB554_571.out
              have hnb95 := NB571_559.out
              have hnc95 := NB559_571.out
              have hnb96 := NB571_562.out
              have hnc96 := NB562_571.out
              obtain ⟨hcz97_0, hcz97_1, hcz97_2, hcz97_3, hcz97_4, hcz97_5, hfz97_0, hfz97_1, hfz97_2, hfz97_3, hfz97_4, hfz97_5⟩ := bz6 BK571
              try go_wp2_with (first | ((with_reducible refine gate_callee (f := 20) rfl ?_); refine gl 113 Try.func20 #[.agg #[.int .i64 ((rd_T44 l2 x52_2).f0.f0), .int .i64 ((rd_T44 l2 x52_2).f0.f1), .int .i64 ((rd_T44 l2 x52_2).f0.f2), .int .i64 ((rd_T44 l2 x52_2).f0.f3), .int .i64 t569, .int .i64 t570]] ?_; (with_reducible refine (impl_Motion_centre.calls _ _ _ _ _ _ _ _ _ _ _ A74.out).mono ?_); rintro e w98 ⟨rfl, hb⟩; refine ⟨_, rfl, ?_⟩; replace HO_13 := asd (mapVe.MS_via HO_13.out (by exact (by have q_ := mapVe.MS_ne HO_13.out BK571.out; repeat (first | (with_reducible first | exact HO_13.out | refine mapVe.MS_set ?_ q_ | apply mapVe.MS_alloc | apply mapVe.MS_drewN | apply mapVe.MS_drew) | exact HO_13.out))) hb); replace HO_50 := asd (Kd.V_below (by (with_reducible repeat (first | apply Kd.V_alloc | apply Kd.V_drewN | apply Kd.V_drew)); exact (Kd.V_mono (Kd.V_far (p := ⟨gb571, 5, none⟩) (Kd.V_far (p := ⟨gb571, 4, none⟩) (Kd.V_far (p := ⟨gb571, 3, none⟩) (Kd.V_far (p := ⟨gb571, 2, none⟩) (Kd.V_far (p := ⟨gb571, 1, none⟩) (Kd.V_far (p := ⟨gb571, 0, none⟩) (Kd.V_mono HO_50.out (fun k_ hk => (⟨hk, hk.2.2.2.2.2.2.2⟩ : _ ∧ k_ ≠ gb571))) (fun _ hk => hk.2) (.int .i64 ((rd_T44 l2 x52_2).f0.f0))) (fun _ hk => hk.2) (.int .i64 ((rd_T44 l2 x52_2).f0.f1))) (fun _ hk => hk.2) (.int .i64 ((rd_T44 l2 x52_2).f0.f2))) (fun _ hk => hk.2) (.int .i64 ((rd_T44 l2 x52_2).f0.f3))) (fun _ hk => hk.2) (.int .i64 t569)) (fun _ hk => hk.2) (.int .i64 t570)) (fun _ h_ => h_.1))) hb); replace BK544 := asd (blk_below (g := gb544) (o := .cells #[.int .i64 a1_0, .int .i64 a1_1, .int .i64 a1_2] 28 (0, 0)) (bq1 BK544 NB544_571) hb); replace BK553 := asd (blk_below (g := gb553) (o := .cells #[.int .i64 t549, .int .i64 t550] 42 (0, 0)) (bq1 BK553 NB553_571) hb); replace BK554 := asd (blk_below (g := gb554) (o := .cells #[.int .i64 t551, .int .i64 t552] 42 (0, 0)) (bq1 BK554 NB554_571) hb); replace BK559 := asd (blk_below (g := gb559) (o := .cells #[.int .i64 ((rd_T44 l2 x52_2).f0.f0), .int .i64 ((rd_T44 l2 x52_2).f0.f1), .int .i64 ((rd_T44 l2 x52_2).f0.f2), .int .i64 ((rd_T44 l2 x52_2).f0.f3), .int .i64 ((rd_T44 l2 x52_2).f1.f0), .int .i64 ((rd_T44 l2 x52_2).f1.f1)] 44 (0, 0)) (bq1 BK559 NB559_571) hb); replace BK562 := asd (blk_below (g := gb562) (o := .cells #[.int .i64 (wrap64 ((wrap64 ((wrap64 (2 - ((rd_T44 l2 x52_2).f0.f0))) - ((rd_T44 l2 x52_2).f0.f3))) * a1_0)), .int .i64 (wrap64 ((wrap64 ((wrap64 (2 - ((rd_T44 l2 x52_2).f0.f0))) - ((rd_T44 l2 x52_2).f0.f3))) * a1_1)), .int .i64 (wrap64 ((wrap64 ((wrap64 (2 - ((rd_T44 l2 x52_2).f0.f0))) - ((rd_T44 l2 x52_2).f0.f3))) * a1_2))] 28 (0, 0)) (bq1 BK562 NB562_571) hb); replace BK571 := asd (blk_below (g := gb571) (o := .cells #[.int .i64 ((rd_T44 l2 x52_2).f0.f0), .int .i64 ((rd_T44 l2 x52_2).f0.f1), .int .i64 ((rd_T44 l2 x52_2).f0.f2), .int .i64 ((rd_T44 l2 x52_2).f0.f3), .int .i64 t569, .int .i64 t570] 44 (0, 0)) (bq0 BK571) hb); replace HB := asd (below_step (by repeat (first | (with_reducible first | exact HB.out | apply below_alloc | apply pw_below_drewN | apply below_drew1 | refine below_set ?_ GE544.out | refine below_set ?_ GE553.out | refine below_set ?_ GE554.out | refine below_set ?_ GE559.out | refine below_set ?_ GE562.out | refine below_set ?_ GE571.out) | exact HB.out)) hb); (try clear hb)) | ((with_reducible refine gd 20 rfl ?_); refine bx #[.int .i64 0, .int .i64 0] 42 ?_; intro gb575 hg w99 BK575 hb; replace HO_13 := asd (mapVe.MS_via HO_13.out (by (with_reducible repeat (first | apply mapVe.MS_alloc | apply mapVe.MS_drewN | apply mapVe.MS_drew)); exact HO_13.out) hb); replace HO_50 := asd (Kd.V_below (Kd.V_elderB (by (with_reducible repeat (first | apply Kd.V_alloc | apply Kd.V_drewN | apply Kd.V_drew)); exact HO_50.out) gb575 (Nat.le_of_eq hg.symm)) hb); have GW575 := asd ((by rw [hg]; exact (below_size (by repeat (first | (with_reducible first | exact HB.out | apply below_alloc | apply pw_below_drewN | apply below_drew1 | refine below_set ?_ GE544.out | refine below_set ?_ GE553.out | refine below_set ?_ GE554.out | refine below_set ?_ GE559.out | refine below_set ?_ GE562.out | refine below_set ?_ GE571.out) | exact HB.out))) : w.heap.size ≤ gb575)); have GE575 := asd ((by rw [hg]; exact (below_size (by repeat (first | (with_reducible first | exact HB.out | apply below_alloc | apply pw_below_drewN | apply below_drew1 | refine below_set ?_ GE544.out | refine below_set ?_ GE553.out | refine below_set ?_ GE554.out | refine below_set ?_ GE559.out | refine below_set ?_ GE562.out | refine below_set ?_ GE571.out) | exact HB.out))) : w.heap.size ≤ gb575)); replace HB := asd (below_step (by repeat (first | (with_reducible first | exact HB.out | apply below_alloc | apply pw_below_drewN | apply below_drew1 | refine below_set ?_ GE544.out | refine below_set ?_ GE553.out | refine below_set ?_ GE554.out | refine below_set ?_ GE559.out | refine below_set ?_ GE562.out | refine below_set ?_ GE571.out) | exact HB.out)) hb); have NB544_575 := nlt hg BK544; have NB575_544 := nsy (nlt hg BK544); replace BK544 := bB BK544 hb; have NB553_575 := nlt hg BK553; have NB575_553 := nsy (nlt hg BK553); replace BK553 := bB BK553 hb; have NB554_575 := nlt hg BK554; have NB575_554 := nsy (nlt hg BK554); replace BK554 := bB BK554 hb; have NB559_575 := nlt hg BK559; have NB575_559 := nsy (nlt hg BK559); replace BK559 := bB BK559 hb; have NB562_575 := nlt hg BK562; have NB575_562 := nsy (nlt hg BK562); replace BK562 := bB BK562 hb; have NB571_575 := nlt hg BK571; have NB575_571 := nsy (nlt hg BK571); replace BK571 := bB BK571 hb; clear hb hg; have hnb100 := NB575_544.out; have hnc100 := NB544_575.out; have hnb101 := NB575_553.out; have hnc101 := NB553_575.out; have hnb102 := NB575_554.out; have hnc102 := NB554_575.out; have hnb103 := NB575_559.out; have hnc103 := NB559_575.out; have hnb104 := NB575_562.out; have hnc104 := NB562_575.out; have hnb105 := NB575_571.out; have hnc105 := NB571_575.out; obtain ⟨hcz106_0, hcz106_1, hfz106_0, hfz106_1⟩ := bz2 BK575))
              obtain ⟨w107, h_w107⟩ : ∃ w_, ((w99.setCell ⟨gb575, 0, none⟩ (.int .i64 t572)).setCell ⟨gb575, 1, none⟩ (.int .i64 t573)) = w_ := ⟨_, rfl⟩
              replace HO_13 : Aside0 (mapVe.MS w107 gbM x13_4) := by rw [← h_w107]; exact ⟨by exact (by have q_ := mapVe.MS_ne HO_13.out BK575.out; repeat (first | (with_reducible first | exact HO_13.out | refine mapVe.MS_set ?_ q_ | apply mapVe.MS_alloc | apply mapVe.MS_drewN | apply mapVe.MS_drew) | exact HO_13.out))⟩
              replace HO_50 : Aside0 (Kd.V k44 44 w107 w.heap.size (fun k_ => (P2_ k_ ∨ w.heap.size ≤ k_) ∧ k_ ≠ gbM ∧ k_ ≠ gb544 ∧ k_ ≠ gb553 ∧ k_ ≠ gb554 ∧ k_ ≠ gb559 ∧ k_ ≠ gb562 ∧ k_ ≠ gb571 ∧ k_ ≠ gb575) (.slice (some ad558) l2.length c2) l2) := by rw [← h_w107]; exact ⟨by (with_reducible repeat (first | apply Kd.V_alloc | apply Kd.V_drewN | apply Kd.V_drew)); exact Kd.V_mono (Kd.V_far (p := ⟨gb575, 1, none⟩) (Kd.V_far (p := ⟨gb575, 0, none⟩) (Kd.V_mono HO_50.out (fun k_ hk => (⟨hk, hk.2⟩ : _ ∧ k_ ≠ gb575))) (fun _ hk => hk.2) (.int .i64 t572)) (fun _ hk => hk.2) (.int .i64 t573)) (fun _ hk => ⟨hk.1.1.1, ⟨hk.1.1.2.1, ⟨hk.1.1.2.2.1, ⟨hk.1.1.2.2.2.1, ⟨hk.1.1.2.2.2.2.1, ⟨hk.1.1.2.2.2.2.2.1, ⟨hk.1.1.2.2.2.2.2.2.1, ⟨hk.1.1.2.2.2.2.2.2.2, hk.1.2⟩⟩⟩⟩⟩⟩⟩⟩)⟩
              replace BK544 : Aside0 (w107.heap[gb544]? = some (.cells #[.int .i64 a1_0, .int .i64 a1_1, .int .i64 a1_2] 28 (0, 0))) := by rw [← h_w107]; exact ⟨bq1 BK544 NB544_575⟩
              replace BK553 : Aside0 (w107.heap[gb553]? = some (.cells #[.int .i64 t549, .int .i64 t550] 42 (0, 0))) := by rw [← h_w107]; exact ⟨bq1 BK553 NB553_575⟩
              replace BK554 : Aside0 (w107.heap[gb554]? = some (.cells #[.int .i64 t551, .int .i64 t552] 42 (0, 0))) := by rw [← h_w107]; exact ⟨bq1 BK554 NB554_575⟩
              replace BK559 : Aside0 (w107.heap[gb559]? = some (.cells #[.int .i64 ((rd_T44 l2 x52_2).f0.f0), .int .i64 ((rd_T44 l2 x52_2).f0.f1), .int .i64 ((rd_T44 l2 x52_2).f0.f2), .int .i64 ((rd_T44 l2 x52_2).f0.f3), .int .i64 ((rd_T44 l2 x52_2).f1.f0), .int .i64 ((rd_T44 l2 x52_2).f1.f1)] 44 (0, 0))) := by rw [← h_w107]; exact ⟨bq1 BK559 NB559_575⟩
              replace BK562 : Aside0 (w107.heap[gb562]? = some (.cells #[.int .i64 (wrap64 ((wrap64 ((wrap64 (2 - ((rd_T44 l2 x52_2).f0.f0))) - ((rd_T44 l2 x52_2).f0.f3))) * a1_0)), .int .i64 (wrap64 ((wrap64 ((wrap64 (2 - ((rd_T44 l2 x52_2).f0.f0))) - ((rd_T44 l2 x52_2).f0.f3))) * a1_1)), .int .i64 (wrap64 ((wrap64 ((wrap64 (2 - ((rd_T44 l2 x52_2).f0.f0))) - ((rd_T44 l2 x52_2).f0.f3))) * a1_2))] 28 (0, 0))) := by rw [← h_w107]; exact ⟨bq1 BK562 NB562_575⟩
              replace BK571 : Aside0 (w107.heap[gb571]? = some (.cells #[.int .i64 ((rd_T44 l2 x52_2).f0.f0), .int .i64 ((rd_T44 l2 x52_2).f0.f1), .int .i64 ((rd_T44 l2 x52_2).f0.f2), .int .i64 ((rd_T44 l2 x52_2).f0.f3), .int .i64 t569, .int .i64 t570] 44 (0, 0))) := by rw [← h_w107]; exact ⟨bq1 BK571 NB571_575⟩
              replace BK575 : Aside0 (w107.heap[gb575]? = some (.cells #[.int .i64 t572, .int .i64 t573] 42 (0, 0))) := by rw [← h_w107]; exact ⟨bq0 BK575⟩
              replace HB : Aside0 (Below w.heap.size w w107) := by rw [← h_w107]; exact ⟨by repeat (first | (with_reducible first | exact HB.out | apply below_alloc | apply pw_below_drewN | apply below_drew1 | refine below_set ?_ GE544.out | refine below_set ?_ GE553.out | refine below_set ?_ GE554.out | refine below_set ?_ GE559.out | refine below_set ?_ GE562.out | refine below_set ?_ GE571.out | refine below_set ?_ GE575.out) | exact HB.out)⟩
              (try rw [h_w107]); clear h_w107
              replace HO_13 := asd (mapVe.MS_drew HO_13.out)
              replace HO_50 := asd (Kd.V_drew HO_50.out)
              replace BK544 := asd (blk_drew BK544.out)
              replace BK553 := asd (blk_drew BK553.out)
              replace BK554 := asd (blk_drew BK554.out)
              replace BK559 := asd (blk_drew BK559.out)
              replace BK562 := asd (blk_drew BK562.out)
              replace BK571 := asd (blk_drew BK571.out)
              replace BK575 := asd (blk_drew BK575.out)
              replace HB := asd (below_drew1 HB.out)
              refine sh 9 (cb3 BK562 (eb2 BK575)) (fun hHeld => ?_); refine with_tabW impl_CountCentres.tab19 impl_CountCentres.bits19 (fun HT_ HW_ => ?_)
              generalize w107.drew = w108 at HO_13 HO_50 BK544 BK553 BK554 BK559 BK562 BK571 BK575 HB hHeld ⊢
              refine pu 0 (some 116) (bT 9 1) HT_ ?_
              refine pu 3 (some 119) (bs 9 9) HT_ ?_
              refine pu 4 (some 120) (bs 9 25) HT_ ?_
              refine pu 5 (some 121) (bs 9 57) HT_ ?_
              refine ta 1 (some 117) (bs 9 59) HT_ HW_ hHeld ?_
              refine ta 2 (some 118) (bT 9 6) HT_ HW_ hHeld ?_
              refine ro 6 (some 122) (bT 9 7) HT_ (fun K hK => ?_)
              refine gs Try.func19 #[.agg #[.int .i64 t572, .int .i64 t573], .int .i64 (wrap64 (Int.tdiv (wrap64 ((wrap64 (2 - ((rd_T44 l2 x52_2).f0.f0))) - ((rd_T44 l2 x52_2).f0.f3))) t574))] ?_
              with_reducible refine (impl_Vec_times.calls _ _ _ _ _ _ A76.out).mono ?_
              rintro e w109 ⟨rfl, hb⟩
              refine ⟨_, rfl, ?_⟩
              replace HO_13 := asd (mapVe.MS_via HO_13.out (by (with_reducible repeat (first | apply mapVe.MS_alloc | apply mapVe.MS_drewN | apply mapVe.MS_drew)); exact HO_13.out) hb)
              replace HO_50 := asd (Kd.V_below (by (with_reducible repeat (first | apply Kd.V_alloc | apply Kd.V_drewN | apply Kd.V_drew)); exact HO_50.out) hb)
              replace BK544 := bB BK544 hb
              replace BK553 := bB BK553 hb
              replace BK554 := bB BK554 hb
              replace BK559 := bB BK559 hb
              replace BK562 := bB BK562 hb
              replace BK571 := bB BK571 hb
              replace BK575 := bB BK575 hb
              replace HB := asd (below_step (by repeat (first | (with_reducible first | exact HB.out | apply below_alloc | apply pw_below_drewN | apply below_drew1 | refine below_set ?_ GE544.out | refine below_set ?_ GE553.out | refine below_set ?_ GE554.out | refine below_set ?_ GE559.out | refine below_set ?_ GE562.out | refine below_set ?_ GE571.out | refine below_set ?_ GE575.out) | exact HB.out)) hb)
              (try clear hb)
              (try clear hb2)
              (try clear hk)
              (try clear hi)
              refine hK.out _ _ (cb3 BK562 (eb2 BK575)).out (fun hHeld => ?_)
              clear hK K
              refine norm_ (a' := ?_) ?_ ?_
              rotate_left
              ·show Act.put _ (some 122) _ = _
               simp only [Act.put, sA, sB, sC, i64_w, i32_w]
               rfl
              refine ro 7 (some 123) (bT 9 8) HT_ (fun K hK => ?_)
              refine gs Try.func21 #[.agg #[.int .i64 (wrap64 ((wrap64 ((wrap64 (2 - ((rd_T44 l2 x52_2).f0.f0))) - ((rd_T44 l2 x52_2).f0.f3))) * a1_0)), .int .i64 (wrap64 ((wrap64 ((wrap64 (2 - ((rd_T44 l2 x52_2).f0.f0))) - ((rd_T44 l2 x52_2).f0.f3))) * a1_1)), .int .i64 (wrap64 ((wrap64 ((wrap64 (2 - ((rd_T44 l2 x52_2).f0.f0))) - ((rd_T44 l2 x52_2).f0.f3))) * a1_2))], .agg #[.int .i64 t576, .int .i64 t577]] ?_
              with_reducible refine (impl_Lattice_reduce.calls _ _ _ _ _ _ _ _ A77.out).mono ?_
              rintro e w110 ⟨rfl, hb⟩
              refine ⟨_, rfl, ?_⟩
              replace HO_13 := asd (mapVe.MS_via HO_13.out (by (with_reducible repeat (first | apply mapVe.MS_alloc | apply mapVe.MS_drewN | apply mapVe.MS_drew)); exact HO_13.out) hb)
              replace HO_50 := asd (Kd.V_below (by (with_reducible repeat (first | apply Kd.V_alloc | apply Kd.V_drewN | apply Kd.V_drew)); exact HO_50.out) hb)
              replace BK544 := bB BK544 hb
              replace BK553 := bB BK553 hb
              replace BK554 := bB BK554 hb
              replace BK559 := bB BK559 hb
              replace BK562 := bB BK562 hb
              replace BK571 := bB BK571 hb
              replace BK575 := bB BK575 hb
              replace HB := asd (below_step (by repeat (first | (with_reducible first | exact HB.out | apply below_alloc | apply pw_below_drewN | apply below_drew1 | refine below_set ?_ GE544.out | refine below_set ?_ GE553.out | refine below_set ?_ GE554.out | refine below_set ?_ GE559.out | refine below_set ?_ GE562.out | refine below_set ?_ GE571.out | refine below_set ?_ GE575.out) | exact HB.out)) hb)
              (try clear hb)
              (try clear hb2)
              (try clear hk)
              (try clear hi)
              refine hK.out _ _ (cb3 BK562 (eb2 BK575)).out (fun hHeld => ?_)
              clear hK K
              refine norm_ (a' := ?_) ?_ ?_
              rotate_left
              ·show Act.put _ (some 123) _ = _
               simp only [Act.put, sA, sB, sC, i64_w, i32_w]
               rfl
              refine ro 8 (none) (bT 9 9) HT_ (fun K hK => ?_)
              refine mapVe.put_step (by rfl) rfl _ _ _ rfl rfl (by (with_reducible repeat (first | apply mapVe.MS_alloc | apply mapVe.MS_drewN | apply mapVe.MS_drew)); exact HO_13.out) (⟨t578, t579⟩ : S42) rfl rfl LMc78.out.2 LMc78.out.1 ?_
              intro w111 ho hg
              rw [← Ny580.out] at ho
              have hb : Below w.heap.size w w111 := mapVe.below_put (by repeat (first | (with_reducible first | exact HB.out | apply below_alloc | apply pw_below_drewN | apply below_drew1 | refine below_set ?_ GE544.out | refine below_set ?_ GE553.out | refine below_set ?_ GE554.out | refine below_set ?_ GE559.out | refine below_set ?_ GE562.out | refine below_set ?_ GE571.out | refine below_set ?_ GE575.out) | exact HB.out)) GEM.out hg
              replace HO_50 := asd (Kd.V_grown (ok := (fun k_ => ((P2_ k_ ∨ w.heap.size ≤ k_) ∧ k_ ≠ gb544 ∧ k_ ≠ gb553 ∧ k_ ≠ gb554 ∧ k_ ≠ gb559 ∧ k_ ≠ gb562 ∧ k_ ≠ gb571 ∧ k_ ≠ gb575) ∧ k_ ≠ gbM)) (by (with_reducible repeat (first | apply Kd.V_alloc | apply Kd.V_drewN | apply Kd.V_drew)); exact Kd.V_mono HO_50.out (fun _ hk => ⟨⟨hk.1, ⟨hk.2.2.1, ⟨hk.2.2.2.1, ⟨hk.2.2.2.2.1, ⟨hk.2.2.2.2.2.1, ⟨hk.2.2.2.2.2.2.1, ⟨hk.2.2.2.2.2.2.2.1, hk.2.2.2.2.2.2.2.2⟩⟩⟩⟩⟩⟩⟩, hk.2.1⟩)) hg (fun _ hk e_ => hk.2 (Option.some.inj e_)))
              replace BK544 := asd (mapVe.blk_put (g := gb544) (cs := #[.int .i64 a1_0, .int .i64 a1_1, .int .i64 a1_2]) (t := 28) (bkp BK544) (by (with_reducible repeat (first | apply mapVe.MS_alloc | apply mapVe.MS_drewN | apply mapVe.MS_drew)); exact HO_13.out) hg)
              replace BK553 := asd (mapVe.blk_put (g := gb553) (cs := #[.int .i64 t549, .int .i64 t550]) (t := 42) (bkp BK553) (by (with_reducible repeat (first | apply mapVe.MS_alloc | apply mapVe.MS_drewN | apply mapVe.MS_drew)); exact HO_13.out) hg)
              replace BK554 := asd (mapVe.blk_put (g := gb554) (cs := #[.int .i64 t551, .int .i64 t552]) (t := 42) (bkp BK554) (by (with_reducible repeat (first | apply mapVe.MS_alloc | apply mapVe.MS_drewN | apply mapVe.MS_drew)); exact HO_13.out) hg)
              replace BK559 := asd (mapVe.blk_put (g := gb559) (cs := #[.int .i64 ((rd_T44 l2 x52_2).f0.f0), .int .i64 ((rd_T44 l2 x52_2).f0.f1), .int .i64 ((rd_T44 l2 x52_2).f0.f2), .int .i64 ((rd_T44 l2 x52_2).f0.f3), .int .i64 ((rd_T44 l2 x52_2).f1.f0), .int .i64 ((rd_T44 l2 x52_2).f1.f1)]) (t := 44) (bkp BK559) (by (with_reducible repeat (first | apply mapVe.MS_alloc | apply mapVe.MS_drewN | apply mapVe.MS_drew)); exact HO_13.out) hg)
              replace BK562 := asd (mapVe.blk_put (g := gb562) (cs := #[.int .i64 (wrap64 ((wrap64 ((wrap64 (2 - ((rd_T44 l2 x52_2).f0.f0))) - ((rd_T44 l2 x52_2).f0.f3))) * a1_0)), .int .i64 (wrap64 ((wrap64 ((wrap64 (2 - ((rd_T44 l2 x52_2).f0.f0))) - ((rd_T44 l2 x52_2).f0.f3))) * a1_1)), .int .i64 (wrap64 ((wrap64 ((wrap64 (2 - ((rd_T44 l2 x52_2).f0.f0))) - ((rd_T44 l2 x52_2).f0.f3))) * a1_2))]) (t := 28) (bkp BK562) (by (with_reducible repeat (first | apply mapVe.MS_alloc | apply mapVe.MS_drewN | apply mapVe.MS_drew)); exact HO_13.out) hg)
              replace BK571 := asd (mapVe.blk_put (g := gb571) (cs := #[.int .i64 ((rd_T44 l2 x52_2).f0.f0), .int .i64 ((rd_T44 l2 x52_2).f0.f1), .int .i64 ((rd_T44 l2 x52_2).f0.f2), .int .i64 ((rd_T44 l2 x52_2).f0.f3), .int .i64 t569, .int .i64 t570]) (t := 44) (bkp BK571) (by (with_reducible repeat (first | apply mapVe.MS_alloc | apply mapVe.MS_drewN | apply mapVe.MS_drew)); exact HO_13.out) hg)
              replace BK575 := asd (mapVe.blk_put (g := gb575) (cs := #[.int .i64 t572, .int .i64 t573]) (t := 42) (bkp BK575) (by (with_reducible repeat (first | apply mapVe.MS_alloc | apply mapVe.MS_drewN | apply mapVe.MS_drew)); exact HO_13.out) hg)
              replace HB := asd (hb)
              replace HO_13 := asd (ho)
              clear ho hb hg
              refine hK.out _ _ (cb3 BK562 (eb2 BK575)).out (fun hHeld => ?_)
              clear hK K
              refine done_ (done_of HT_.out (by kernel_rfl)) ?_
              try go_wp2
              go_roundg k4
              case measure => have := HJ6.out; have := HK2.out; have := HJ32.out; have := HK4.out; omega
              case rel => exact ⟨(y580), (wrap64 (x91_4 + 1)), (by first | rfl | (simp; done) | (simp [*]; done)), H', ⟨by have := HJ6.out; have := HK2.out; have := HJ32.out; have := HK4.out; omega⟩, ⟨by (with_reducible repeat (first | apply mapVe.MS_alloc | apply mapVe.MS_drewN | apply mapVe.MS_drew)); exact HO_13.out⟩, ⟨by (with_reducible repeat (first | apply Kd.V_alloc | apply Kd.V_drewN | apply Kd.V_drew)); exact Kd.V_mono HO_50.out (fun _ hk => ⟨hk.1.1, ⟨hk.2, ⟨hk.1.2.1, ⟨hk.1.2.2.1, ⟨hk.1.2.2.2.1, ⟨hk.1.2.2.2.2.1, hk.1.2.2.2.2.2.1⟩⟩⟩⟩⟩⟩)⟩, ⟨bkp BK544⟩, ⟨bkp BK553⟩, ⟨bkp BK554⟩, ⟨bkp BK559⟩, ⟨bkp BK562⟩, ⟨by repeat (first | (with_reducible first | exact HB.out | apply below_alloc | apply pw_below_drewN | apply below_drew1 | refine below_set ?_ GE544.out | refine below_set ?_ GE553.out | refine below_set ?_ GE554.out | refine below_set ?_ GE559.out | refine below_set ?_ GE562.out | refine below_set ?_ GE571.out | refine below_set ?_ GE575.out) | exact HB.out)⟩⟩
             ·go_wp2
              go_roundg k4
              case measure => have := HJ6.out; have := HK2.out; have := HJ32.out; have := HK4.out; omega
              case rel => exact ⟨(x13_4), (wrap64 (x52_2 + 1)), (by first | rfl | (simp; done) | (simp [*]; done)), H', ⟨by have := HJ6.out; have := HK2.out; have := HJ32.out; have := HK4.out; omega⟩, ⟨by (with_reducible repeat (first | apply mapVe.MS_alloc | apply mapVe.MS_drewN | apply mapVe.MS_drew)); exact HO_13.out⟩, ⟨by (with_reducible repeat (first | apply Kd.V_alloc | apply Kd.V_drewN | apply Kd.V_drew)); exact Kd.V_mono HO_50.out (fun _ hk => ⟨hk.1, ⟨hk.2.1, ⟨hk.2.2.1, ⟨hk.2.2.2.1, hk.2.2.2.2.1⟩⟩⟩⟩)⟩, ⟨bkp BK544⟩, ⟨bkp BK553⟩, ⟨bkp BK554⟩, ⟨by repeat (first | (with_reducible first | exact HB.out | apply below_alloc | apply pw_below_drewN | apply below_drew1 | refine below_set ?_ GE544.out | refine below_set ?_ GE553.out | refine below_set ?_ GE554.out | refine below_set ?_ GE559.out | refine below_set ?_ GE562.out) | exact HB.out)⟩⟩
       ·simp only [Option.some.injEq, Prod.mk.injEq] at H
        obtain ⟨rfl, rfl⟩ := H
        go_wp2_with (first | (at_len; refine wpList_len_own _ rfl _ 53 rfl 42 4 Try.underlying53 _ gbM _ _ rfl HO_13.out.2 ?_))
        go_ret2
        exact er (bbw3 HB GE544 GE553 GE554)
 ·rw [if_neg c6] at H
  have c6b0 : (t548 == 0) = false := beq_eq_false_iff_ne.mpr c6
  have c6b1 : (t548 != 0) = true := bne_iff_ne.mpr c6
  simp only [Option.some.injEq, Prod.mk.injEq] at H
  obtain ⟨rfl, rfl⟩ := H
  go_enter Try.func8, Try.ntmps8
  go_wp2_with (first | ((with_reducible refine gd 5 rfl ?_); refine bx #[.int .i64 a1_0, .int .i64 a1_1, .int .i64 a1_2] 28 ?_; intro gb544 hg w113 BK544 hb; replace HO2 := asd (Kd.V_below (Kd.V_elderB (by (with_reducible repeat (first | apply Kd.V_alloc | apply Kd.V_drewN | apply Kd.V_drew)); exact HO2.out) gb544 (Nat.le_of_eq hg.symm)) hb); have GE544 := ngw0 hg HB; replace HB := bS0 HB hb; clear hb hg; obtain ⟨hcz114_0, hcz114_1, hcz114_2, hfz114_0, hfz114_1, hfz114_2⟩ := bz3 BK544) | ((with_reducible refine gd 25 rfl ?_); refine Kd.N_lit (Kd.slice 44 k44) _ 30 ?hg (N' := 25) ?hd (xs := ([l2] : List (List (S44)))) (inner := [.slice A2 l2.length c2]) (ok := (fun k_ => (P2_ k_ ∨ w.heap.size ≤ k_) ∧ k_ ≠ gb544)) (okp := (fun k_ => (P2_ k_ ∨ w.heap.size ≤ k_) ∧ k_ ≠ gb544)) ?hr ?hp (fun _ hk => hk) ((show ∀ k_, w113.heap.size ≤ k_ → (fun k_ => (P2_ k_ ∨ w.heap.size ≤ k_) ∧ k_ ≠ gb544) k_ from fun k_ hk => ⟨(.inr (Nat.le_trans (bsz1 HB GE544) hk)), Kd.freshB (g := gb544) (o := .cells #[.int .i64 a1_0, .int .i64 a1_1, .int .i64 a1_2] 28 (0, 0)) (bkp BK544) k_ hk⟩) _ (Nat.le_refl _)) (Below.refl _ _) (Nat.le_refl _) (by simp) ?_; (case hd => rfl); (case hg => rfl); (case hr => first | (go_simp; done) | (go_simp; rfl)); (case hp => exact (Reps.one (show Kd.FK (Kd.slice 44 k44) _ _ l2 [.slice A2 l2.length c2] from (Kd.FK_slice_mk (Kd.V_reads' (Kd.V_mono (ok' := (fun k_ => (P2_ k_ ∨ w.heap.size ≤ k_) ∧ k_ ≠ gb544)) (HO2.out) (fun k_ hk => ⟨hk.1, hk.2⟩))).2.1 (Kd.V_F (Kd.V_mono (ok' := (fun k_ => (P2_ k_ ∨ w.heap.size ≤ k_) ∧ k_ ≠ gb544)) (HO2.out) (fun k_ hk => ⟨hk.1, hk.2⟩))))) (Reps.none _ _))); intro v546 w115 ho116 hb hg_ hnew_; clear hg_ hnew_; (first | rw [← Ny545.out] at ho116 | (simp only [Int.reduceToNat] at ho116; rw [← Ny545.out] at ho116)); replace HO2 := asd (Kd.V_elder' (by (with_reducible repeat (first | apply Kd.V_alloc | apply Kd.V_drewN | apply Kd.V_drew)); exact HO2.out) (Kd.N_base ho116) hb); have HO547 := asd (Kd.N_lower ho116 (bsz1 HB GE544)); replace BK544 := bB BK544 hb; replace HB := bS1 HB GE544 hb; clear hb ho116; obtain ⟨Ao117, co117, eo117⟩ := Kd.N_slice HO547.out; subst eo117) | ((with_reducible refine gate_callee (f := 14) rfl ?_); refine gl 26 Try.func14 #[.int .i64 a0, .agg #[.int .i64 a1_0, .int .i64 a1_1, .int .i64 a1_2], .slice Ao117 y545.length co117] ?_; (with_reducible refine (impl_groupCode.calls _ _ _ _ _ _ _ _ _ _ ?side1 ?side2 A5.out).mono ?_); (case side1 => exact ks (Kd.N_reads' HO547.out).2.2); (case side2 => exact (Kd.N_reads' HO547.out).2.1); rintro e w118 ⟨rfl, hb⟩; refine ⟨_, rfl, ?_⟩; replace HO2 := asd (Kd.V_below (by (with_reducible repeat (first | apply Kd.V_alloc | apply Kd.V_drewN | apply Kd.V_drew)); exact HO2.out) hb); replace HO547 := asd (Kd.N_below (by (with_reducible repeat (first | apply Kd.N_alloc | apply Kd.N_drewN | apply Kd.N_drew)); exact HO547.out) hb); replace BK544 := bB BK544 hb; replace HB := bS1 HB GE544 hb; (try clear hb)))
  go_ret2
  exact er (bbw1 HB GE544)

end Go.Proofs.Ytfmjboloeabjmaa.PA
