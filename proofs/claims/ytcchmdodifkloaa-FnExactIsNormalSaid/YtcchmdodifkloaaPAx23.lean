/- Walks written by program: each Go function that the law reaches comes to the plain function beside it. -/
import Derived.Test.YtcchmdodifkloaaPAx0
import Derived.Test.YtcchmdodifkloaaPAx9
import Derived.Test.YtcchmdodifkloaaPAx11
import Derived.Test.YtcchmdodifkloaaPAx15
import Derived.Test.YtcchmdodifkloaaPAx17
namespace Go.Proofs.Ytcchmdodifkloaa.PA
open Go.RowKit Go.Proofs.YtcchmdodifkloaaW.PrintWords Go.Proofs.YtcchmdodifkloaaW.PrintLast Go.Proofs.YtcchmdodifkloaaW.PrintMore
attribute [local go_sem] max2_int min2_int max_two min_two max_three min_three max_four min_four   -- for this text's walks alone
set_option linter.unusedVariables false
set_option linter.unusedSimpArgs false

/-! ### impl_subCode: function 48 -/
def impl_subCode.f (k : Nat) (a0 : Int) (a1_0 : Int) (a1_1 : Int) (a1_2 : Int) (l2 : List (S55)) (l3 : List (S55)) : Option (Int) := (impl_groupCode.f k a0 a1_0 a1_1 a1_2 (([l2, l3] : List (List (S55))))).bind fun t737 => (if t737 = 0 then (if (l2.length : Int) > 48 then (some 3) else ((impl_containsAll.f k l2 l3).bind fun t738 => (if t738 = true then (some 0) else (some 5)))) else (some t737))
set_option maxHeartbeats 8000000 in
set_option maxRecDepth 100000 in
theorem impl_subCode.calls (k : Nat) (a0 : Int) (a1_0 : Int) (a1_1 : Int) (a1_2 : Int) (P2_ : Nat → Prop) (A2 : Option Addr) (c2 : Nat) (l2 : List (S55)) (P3_ : Nat → Prop) (A3 : Option Addr) (c3 : Nat) (l3 : List (S55)) (r : Int) (w : World) (hs2 : Kd.V k55 55 w w.heap.size (fun k_ => P2_ k_) (.slice A2 l2.length c2) l2) (hs3 : Kd.V k55 55 w w.heap.size (fun k_ => P3_ k_) (.slice A3 l3.length c3) l3) (h : impl_subCode.f k a0 a1_0 a1_1 a1_2 l2 l3 = some r) :
  Calls Try.prog 48 #[.int .i64 a0, .agg #[.int .i64 a1_0, .int .i64 a1_1, .int .i64 a1_2], .slice A2 l2.length c2, .slice A3 l3.length c3] w fun e w' => e = .returned (.int .i64 r) ∧ Below w.heap.size w w' := by
 have hu27 := Try.underlying27
 have HO2 := asd (show Kd.V k55 55 w w.heap.size (fun k_ => ((P2_ k_ ∨ P3_ k_) ∨ w.heap.size ≤ k_)) (.slice A2 l2.length c2) l2 from Kd.V_mono hs2 (fun k_ hk => .inl (.inl hk)))
 have HO3 := asd (show Kd.V k55 55 w w.heap.size (fun k_ => ((P2_ k_ ∨ P3_ k_) ∨ w.heap.size ≤ k_)) (.slice A3 l3.length c3) l3 from Kd.V_mono hs3 (fun k_ hk => .inl (.inr hk)))
 have HB := asd (Below.refl w.heap.size w)
 have H : ((impl_groupCode.f k a0 a1_0 a1_1 a1_2 (([l2, l3] : List (List (S55))))).bind fun t737 => (if t737 = 0 then (if (l2.length : Int) > 48 then (some 3) else ((impl_containsAll.f k l2 l3).bind fun t738 => (if t738 = true then (some 0) else (some 5)))) else (some t737))) = some r := h
 clear h
 obtain ⟨y734, hy734⟩ : ∃ y_ : List (List (S55)), y_ = (([l2, l3] : List (List (S55)))) := ⟨_, rfl⟩
 replace H : ((impl_groupCode.f k a0 a1_0 a1_1 a1_2 y734).bind fun t737 => (if t737 = 0 then (if (l2.length : Int) > 48 then (some 3) else ((impl_containsAll.f k l2 l3).bind fun t738 => (if t738 = true then (some 0) else (some 5)))) else (some t737))) = some r := by first | (rw [hy734]; with_reducible exact H) | (have H2_ := (Option.bind_some _ _).symm.trans H; rw [hy734]; with_reducible exact H2_) | (have H2_ := (Option.bind_some _ _).symm.trans H; with_reducible exact H2_) | with_reducible exact H | (rw [hy734]; exact H) | exact H
 have Ny734 := Aside0.mk hy734
 clear hy734
 obtain ⟨t737, A5, H⟩ := ob H
 try dsimp only at H
 by_cases c6 : t737 = 0
 rw [if_pos c6] at H
 have c6b0 : (t737 == 0) = true := beq_iff_eq.mpr c6
 have c6b1 : (t737 != 0) = false := bne_eq_false_iff_eq.mpr c6
 clear c6
 by_cases c7 : (l2.length : Int) > 48
 rw [if_pos c7] at H
 have c7b0 : decide (48 < (l2.length : Int)) = true := decide_eq_true c7
 have c7b1 : decide (48 < l2.length) = true := decide_eq_true (by omega)
 clear c7
 obtain rfl := Option.some.inj H
 rotate_left
 rw [if_neg c7] at H
 have c7b0 : decide (48 < (l2.length : Int)) = false := decide_eq_false c7
 have c7b1 : decide (48 < l2.length) = false := decide_eq_false (by omega)
 clear c7
 obtain ⟨t738, A14, H⟩ := ob H
 try dsimp only at H
 by_cases c15 : t738 = true
 subst c15
 replace H := ifT H
 obtain rfl := Option.some.inj H
 rotate_left
 replace c15 := Bool.eq_false_iff.mpr c15
 subst c15
 replace H := ifF H
 obtain rfl := Option.some.inj H
 rotate_left
 rw [if_neg c6] at H
 have c6b0 : (t737 == 0) = false := beq_eq_false_iff_ne.mpr c6
 have c6b1 : (t737 != 0) = true := bne_iff_ne.mpr c6
 obtain rfl := Option.some.inj H
 rotate_left
 all_goals
  go_enter Try.func48, Try.ntmps48
  go_wp2_with (first | ((with_reducible refine gd 5 rfl ?_); refine bx #[.int .i64 a1_0, .int .i64 a1_1, .int .i64 a1_2] 27 ?_; intro gb733 hg w8 BK733 hb; replace HO2 := asd (Kd.V_below (Kd.V_elderB (by (with_reducible repeat (first | apply Kd.V_alloc | apply Kd.V_drewN | apply Kd.V_drew)); exact HO2.out) gb733 (Nat.le_of_eq hg.symm)) hb); replace HO3 := asd (Kd.V_below (Kd.V_elderB (by (with_reducible repeat (first | apply Kd.V_alloc | apply Kd.V_drewN | apply Kd.V_drew)); exact HO3.out) gb733 (Nat.le_of_eq hg.symm)) hb); have GE733 := ngw0 hg HB; replace HB := bS0 HB hb; clear hb hg; obtain ⟨hcz9_0, hcz9_1, hcz9_2, hfz9_0, hfz9_1, hfz9_2⟩ := bz3 BK733) | ((with_reducible refine gd 14 rfl ?_); refine Kd.N_lit (Kd.slice 55 k55) _ 29 ?hg (N' := 14) ?hd (xs := ([l2, l3] : List (List (S55)))) (inner := [.slice A2 l2.length c2, .slice A3 l3.length c3]) (ok := (fun k_ => ((P2_ k_ ∨ P3_ k_) ∨ w.heap.size ≤ k_) ∧ k_ ≠ gb733)) (okp := (fun k_ => ((P2_ k_ ∨ P3_ k_) ∨ w.heap.size ≤ k_) ∧ k_ ≠ gb733)) ?hr ?hp (fun _ hk => hk) ((show ∀ k_, w8.heap.size ≤ k_ → (fun k_ => ((P2_ k_ ∨ P3_ k_) ∨ w.heap.size ≤ k_) ∧ k_ ≠ gb733) k_ from fun k_ hk => ⟨(.inr (Nat.le_trans (bsz1 HB GE733) hk)), Kd.freshB (g := gb733) (o := .cells #[.int .i64 a1_0, .int .i64 a1_1, .int .i64 a1_2] 27 (0, 0)) (bkp BK733) k_ hk⟩) _ (Nat.le_refl _)) (Below.refl _ _) (Nat.le_refl _) (by simp) ?_; (case hd => rfl); (case hg => rfl); (case hr => first | (go_simp; done) | (go_simp; rfl)); (case hp => exact (Reps.one (show Kd.FK (Kd.slice 55 k55) _ _ l2 [.slice A2 l2.length c2] from (Kd.FK_slice_mk (Kd.V_reads' (Kd.V_mono (ok' := (fun k_ => ((P2_ k_ ∨ P3_ k_) ∨ w.heap.size ≤ k_) ∧ k_ ≠ gb733)) (HO2.out) (fun k_ hk => ⟨hk.1, hk.2⟩))).2.1 (Kd.V_F (Kd.V_mono (ok' := (fun k_ => ((P2_ k_ ∨ P3_ k_) ∨ w.heap.size ≤ k_) ∧ k_ ≠ gb733)) (HO2.out) (fun k_ hk => ⟨hk.1, hk.2⟩))))) (Reps.one (show Kd.FK (Kd.slice 55 k55) _ _ l3 [.slice A3 l3.length c3] from (Kd.FK_slice_mk (Kd.V_reads' (Kd.V_mono (ok' := (fun k_ => ((P2_ k_ ∨ P3_ k_) ∨ w.heap.size ≤ k_) ∧ k_ ≠ gb733)) (HO3.out) (fun k_ hk => ⟨hk.1, hk.2⟩))).2.1 (Kd.V_F (Kd.V_mono (ok' := (fun k_ => ((P2_ k_ ∨ P3_ k_) ∨ w.heap.size ≤ k_) ∧ k_ ≠ gb733)) (HO3.out) (fun k_ hk => ⟨hk.1, hk.2⟩))))) (Reps.none _ _)))); intro v735 w10 ho11 hb hg_ hnew_; clear hg_ hnew_; (first | rw [← Ny734.out] at ho11 | (simp only [Int.reduceToNat] at ho11; rw [← Ny734.out] at ho11)); replace HO2 := asd (Kd.V_elder' (by (with_reducible repeat (first | apply Kd.V_alloc | apply Kd.V_drewN | apply Kd.V_drew)); exact HO2.out) (Kd.N_base ho11) hb); replace HO3 := asd (Kd.V_elder' (by (with_reducible repeat (first | apply Kd.V_alloc | apply Kd.V_drewN | apply Kd.V_drew)); exact HO3.out) (Kd.N_base ho11) hb); have HO736 := asd (Kd.N_lower ho11 (bsz1 HB GE733)); replace BK733 := bB BK733 hb; replace HB := bS1 HB GE733 hb; clear hb ho11; obtain ⟨Ao12, co12, eo12⟩ := Kd.N_slice HO736.out; subst eo12) | ((with_reducible refine gate_callee (f := 32) rfl ?_); refine gl 15 Try.func32 #[.int .i64 a0, .agg #[.int .i64 a1_0, .int .i64 a1_1, .int .i64 a1_2], .slice Ao12 y734.length co12] ?_; (with_reducible refine (impl_groupCode.calls _ _ _ _ _ _ _ _ _ _ ?side1 ?side2 A5.out).mono ?_); (case side1 => exact ks (Kd.N_reads' HO736.out).2.2); (case side2 => exact (Kd.N_reads' HO736.out).2.1); rintro e w13 ⟨rfl, hb⟩; refine ⟨_, rfl, ?_⟩; replace HO2 := asd (Kd.V_below (by (with_reducible repeat (first | apply Kd.V_alloc | apply Kd.V_drewN | apply Kd.V_drew)); exact HO2.out) hb); replace HO3 := asd (Kd.V_below (by (with_reducible repeat (first | apply Kd.V_alloc | apply Kd.V_drewN | apply Kd.V_drew)); exact HO3.out) hb); replace HO736 := asd (Kd.N_below (by (with_reducible repeat (first | apply Kd.N_alloc | apply Kd.N_drewN | apply Kd.N_drew)); exact HO736.out) hb); replace BK733 := bB BK733 hb; replace HB := bS1 HB GE733 hb; (try clear hb)) | ((with_reducible refine gate_callee (f := 33) rfl ?_); refine gl 24 Try.func33 #[.slice A2 l2.length c2, .slice A3 l3.length c3] ?_; (with_reducible refine (impl_containsAll.calls _ _ _ _ _ _ _ _ _ ?side1 ?side2 ?side3 ?side4 A14.out).mono ?_); (case side1 => exact ks (Kd.V_reads' HO2.out).2.2); (case side2 => exact (Kd.V_reads' HO2.out).2.1); (case side3 => exact ks (Kd.V_reads' HO3.out).2.2); (case side4 => exact (Kd.V_reads' HO3.out).2.1); rintro e w22 ⟨rfl, hb⟩; refine ⟨_, rfl, ?_⟩; replace HO2 := asd (Kd.V_below (by (with_reducible repeat (first | apply Kd.V_alloc | apply Kd.V_drewN | apply Kd.V_drew)); exact HO2.out) hb); replace HO3 := asd (Kd.V_below (by (with_reducible repeat (first | apply Kd.V_alloc | apply Kd.V_drewN | apply Kd.V_drew)); exact HO3.out) hb); replace HO736 := asd (Kd.N_below (by (with_reducible repeat (first | apply Kd.N_alloc | apply Kd.N_drewN | apply Kd.N_drew)); exact HO736.out) hb); replace BK733 := bB BK733 hb; replace HB := bS1 HB GE733 hb; (try clear hb)))
  go_ret
  exact er (bbw1 HB GE733)
/-! ### impl_Lattice_compose: function 50 -/
def impl_Lattice_compose.f (a0_0 : Int) (a0_1 : Int) (a0_2 : Int) (a1_0 : Int) (a1_1 : Int) (a1_2 : Int) (a1_3 : Int) (a1_4 : Int) (a1_5 : Int) (a2_0 : Int) (a2_1 : Int) (a2_2 : Int) (a2_3 : Int) (a2_4 : Int) (a2_5 : Int) : Option (Int × Int × Int × Int × Int × Int) := (impl_Motion_times.f a1_0 a1_1 a1_2 a1_3 a1_4 a1_5 a2_0 a2_1 a2_2 a2_3 a2_4 a2_5).bind fun bt743 => ((impl_Lattice_reduceMotion.f a0_0 a0_1 a0_2 bt743.1 bt743.2.1 bt743.2.2.1 bt743.2.2.2.1 bt743.2.2.2.2.1 bt743.2.2.2.2.2).bind fun bt749 => (some (bt749.1, bt749.2.1, bt749.2.2.1, bt749.2.2.2.1, bt749.2.2.2.2.1, bt749.2.2.2.2.2)))
set_option maxHeartbeats 8000000 in
set_option maxRecDepth 100000 in
theorem impl_Lattice_compose.calls (a0_0 : Int) (a0_1 : Int) (a0_2 : Int) (a1_0 : Int) (a1_1 : Int) (a1_2 : Int) (a1_3 : Int) (a1_4 : Int) (a1_5 : Int) (a2_0 : Int) (a2_1 : Int) (a2_2 : Int) (a2_3 : Int) (a2_4 : Int) (a2_5 : Int) (r1 : Int) (r2 : Int) (r3 : Int) (r4 : Int) (r5 : Int) (r6 : Int) (w : World) (h : impl_Lattice_compose.f a0_0 a0_1 a0_2 a1_0 a1_1 a1_2 a1_3 a1_4 a1_5 a2_0 a2_1 a2_2 a2_3 a2_4 a2_5 = some (r1, r2, r3, r4, r5, r6)) :
  Calls Try.prog 50 #[.agg #[.int .i64 a0_0, .int .i64 a0_1, .int .i64 a0_2], .agg #[.int .i64 a1_0, .int .i64 a1_1, .int .i64 a1_2, .int .i64 a1_3, .int .i64 a1_4, .int .i64 a1_5], .agg #[.int .i64 a2_0, .int .i64 a2_1, .int .i64 a2_2, .int .i64 a2_3, .int .i64 a2_4, .int .i64 a2_5]] w fun e w' => e = .returned (.agg #[.int .i64 r1, .int .i64 r2, .int .i64 r3, .int .i64 r4, .int .i64 r5, .int .i64 r6]) ∧ Below w.heap.size w w' := by
 have hu27 := Try.underlying27
 have hu55 := Try.underlying55
 have HB := asd (Below.refl w.heap.size w)
 have H : ((impl_Motion_times.f a1_0 a1_1 a1_2 a1_3 a1_4 a1_5 a2_0 a2_1 a2_2 a2_3 a2_4 a2_5).bind fun bt743 => ((impl_Lattice_reduceMotion.f a0_0 a0_1 a0_2 bt743.1 bt743.2.1 bt743.2.2.1 bt743.2.2.2.1 bt743.2.2.2.2.1 bt743.2.2.2.2.2).bind fun bt749 => (some (bt749.1, bt749.2.1, bt749.2.2.1, bt749.2.2.2.1, bt749.2.2.2.2.1, bt749.2.2.2.2.2)))) = some (r1, r2, r3, r4, r5, r6) := h
 clear h
 obtain ⟨⟨t743, t744, t745, t746, t747, t748⟩, A4, H⟩ := ob H
 try dsimp only at H
 obtain ⟨⟨t749, t750, t751, t752, t753, t754⟩, A5, H⟩ := ob H
 try dsimp only at H
 simp only [Option.some.injEq, Prod.mk.injEq] at H
 obtain ⟨rfl, rfl, rfl, rfl, rfl, rfl⟩ := H
 go_enter Try.func50, Try.ntmps50
 try go_wp2_with (first | ((with_reducible refine gd 3 rfl ?_); refine bx #[.int .i64 a0_0, .int .i64 a0_1, .int .i64 a0_2] 27 ?_; intro gb739 hg w6 BK739 hb; have GE739 := ngw0 hg HB; replace HB := bS0 HB hb; clear hb hg) | ((with_reducible refine gd 4 rfl ?_); refine bx #[.int .i64 a1_0, .int .i64 a1_1, .int .i64 a1_2, .int .i64 a1_3, .int .i64 a1_4, .int .i64 a1_5] 55 ?_; intro gb740 hg w7 BK740 hb; have GE740 := ngw1 hg HB GE739; replace HB := bS1 HB GE739 hb; have NB739_740 := nlt hg BK739; have NB740_739 := nsy (nlt hg BK739); replace BK739 := bB BK739 hb; clear hb hg) | ((with_reducible refine gd 5 rfl ?_); refine bx #[.int .i64 a2_0, .int .i64 a2_1, .int .i64 a2_2, .int .i64 a2_3, .int .i64 a2_4, .int .i64 a2_5] 55 ?_; intro gb741 hg w8 BK741 hb; have GE741 := ngw2 hg HB GE739 GE740; replace HB := bS2 HB GE739 GE740 hb; have NB739_741 := nlt hg BK739; have NB741_739 := nsy (nlt hg BK739); replace BK739 := bB BK739 hb; have NB740_741 := nlt hg BK740; have NB741_740 := nsy (nlt hg BK740); replace BK740 := bB BK740 hb; clear hb hg) | ((with_reducible refine gd 6 rfl ?_); refine bx #[.int .i64 0, .int .i64 0, .int .i64 0, .int .i64 0, .int .i64 0, .int .i64 0] 55 ?_; intro gb742 hg w9 BK742 hb; have GE742 := ngw3 hg HB GE739 GE740 GE741; replace HB := bS3 HB GE739 GE740 GE741 hb; have NB739_742 := nlt hg BK739; have NB742_739 := nsy (nlt hg BK739); replace BK739 := bB BK739 hb; have NB740_742 := nlt hg BK740; have NB742_740 := nsy (nlt hg BK740); replace BK740 := bB BK740 hb; have NB741_742 := nlt hg BK741; have NB742_741 := nsy (nlt hg BK741); replace BK741 := bB BK741 hb; clear hb hg))
 replace BK739 := asd (blk_drew BK739.out)
 replace BK740 := asd (blk_drew BK740.out)
 replace BK741 := asd (blk_drew BK741.out)
 replace BK742 := asd (blk_drew BK742.out)
 replace HB := asd (below_drew1 HB.out)
 refine sh 6 (cb3 BK739 (cb6 BK740 (eb6 BK741))) (fun hHeld => ?_)
 generalize w9.drew = w10 at BK739 BK740 BK741 BK742 HB hHeld ⊢
 refine take_ (i := 0) (N := some 7) (v := ?_) (a' := ?_) (bt 6 1) rfl rfl (by kernel_rfl) (fun _ _ _ h => h) (Or.inl ⟨by rfl, ?_⟩) hHeld ?_ ?_
 rotate_left
 ·rintro w' ⟨s0, s1, s2, s3, s4, s5, s6, s7, s8, s9, s10, s11, s12, s13, s14⟩
  go_simp
  with_reducible rfl
 rotate_left
 ·simp only [Act.put, sA, sB, sC, i64_w, i32_w]
  rfl
 refine take_ (i := 1) (N := some 8) (v := ?_) (a' := ?_) (bt 6 2) rfl rfl (by kernel_rfl) (fun _ _ _ h => h) (Or.inl ⟨by rfl, ?_⟩) hHeld ?_ ?_
 rotate_left
 ·rintro w' ⟨s0, s1, s2, s3, s4, s5, s6, s7, s8, s9, s10, s11, s12, s13, s14⟩
  go_simp
  with_reducible rfl
 rotate_left
 ·simp only [Act.put, sA, sB, sC, i64_w, i32_w]
  rfl
 refine take_ (i := 2) (N := some 9) (v := ?_) (a' := ?_) (bt 6 3) rfl rfl (by kernel_rfl) (fun _ _ _ h => h) (Or.inl ⟨by rfl, ?_⟩) hHeld ?_ ?_
 rotate_left
 ·rintro w' ⟨s0, s1, s2, s3, s4, s5, s6, s7, s8, s9, s10, s11, s12, s13, s14⟩
  go_simp
  with_reducible rfl
 rotate_left
 ·simp only [Act.put, sA, sB, sC, i64_w, i32_w]
  rfl
 refine one_ (i := 3) (N := some 10) (bt 6 4) rfl rfl (by kernel_rfl) (by decide) (fun K hK => ?_)
 refine gs Try.func51 #[.agg #[.int .i64 a1_0, .int .i64 a1_1, .int .i64 a1_2, .int .i64 a1_3, .int .i64 a1_4, .int .i64 a1_5], .agg #[.int .i64 a2_0, .int .i64 a2_1, .int .i64 a2_2, .int .i64 a2_3, .int .i64 a2_4, .int .i64 a2_5]] ?_
 with_reducible refine (impl_Motion_times.calls _ _ _ _ _ _ _ _ _ _ _ _ _ _ _ _ _ _ _ A4.out).mono ?_
 rintro e w11 ⟨rfl, hb⟩
 refine ⟨_, rfl, ?_⟩
 replace BK739 := bB BK739 hb
 replace BK740 := bB BK740 hb
 replace BK741 := bB BK741 hb
 replace BK742 := bB BK742 hb
 replace HB := bS4 HB GE739 GE740 GE741 GE742 hb
 (try clear hb)
 (try clear hb2)
 (try clear hk)
 (try clear hi)
 refine hK.out _ _ (cb3 BK739 (cb6 BK740 (eb6 BK741))).out (fun hHeld => ?_)
 clear hK K
 refine norm_ (a' := ?_) ?_ ?_
 rotate_left
 ·show Act.put _ (some 10) _ = _
  simp only [Act.put, sA, sB, sC, i64_w, i32_w]
  rfl
 refine one_ (i := 4) (N := some 11) (bt 6 5) rfl rfl (by kernel_rfl) (by decide) (fun K hK => ?_)
 refine gs Try.func79 #[.agg #[.int .i64 a0_0, .int .i64 a0_1, .int .i64 a0_2], .agg #[.int .i64 t743, .int .i64 t744, .int .i64 t745, .int .i64 t746, .int .i64 t747, .int .i64 t748]] ?_
 with_reducible refine (impl_Lattice_reduceMotion.calls _ _ _ _ _ _ _ _ _ _ _ _ _ _ _ _ A5.out).mono ?_
 rintro e w12 ⟨rfl, hb⟩
 refine ⟨_, rfl, ?_⟩
 replace BK739 := bB BK739 hb
 replace BK740 := bB BK740 hb
 replace BK741 := bB BK741 hb
 replace BK742 := bB BK742 hb
 replace HB := bS4 HB GE739 GE740 GE741 GE742 hb
 (try clear hb)
 (try clear hb2)
 (try clear hk)
 (try clear hi)
 refine hK.out _ _ (cb3 BK739 (cb6 BK740 (eb6 BK741))).out (fun hHeld => ?_)
 clear hK K
 refine norm_ (a' := ?_) ?_ ?_
 rotate_left
 ·show Act.put _ (some 11) _ = _
  simp only [Act.put, sA, sB, sC, i64_w, i32_w]
  rfl
 refine one_ (i := 5) (N := none) (bt 6 6) rfl rfl (by kernel_rfl) (by decide) (fun K hK => ?_)
 have hs13 : w12.cell? ⟨gb742, 0, none⟩ = some (.int .i64 0) := bcl BK742 0
 have hfs13 := blk_frozen BK742.out 0
 have hns13_0 := NB739_742.out
 have hns13_1 := NB740_742.out
 have hns13_2 := NB741_742.out
 have hms13_0 := NB742_739.out
 have hms13_1 := NB742_740.out
 have hms13_2 := NB742_741.out
 have hs14 : w12.cell? ⟨gb742, 1, none⟩ = some (.int .i64 0) := bcl BK742 1
 have hfs14 := blk_frozen BK742.out 1
 have hns14_0 := NB739_742.out
 have hns14_1 := NB740_742.out
 have hns14_2 := NB741_742.out
 have hms14_0 := NB742_739.out
 have hms14_1 := NB742_740.out
 have hms14_2 := NB742_741.out
 have hs15 : w12.cell? ⟨gb742, 2, none⟩ = some (.int .i64 0) := bcl BK742 2
 have hfs15 := blk_frozen BK742.out 2
 have hns15_0 := NB739_742.out
 have hns15_1 := NB740_742.out
 have hns15_2 := NB741_742.out
 have hms15_0 := NB742_739.out
 have hms15_1 := NB742_740.out
 have hms15_2 := NB742_741.out
 have hs16 : w12.cell? ⟨gb742, 3, none⟩ = some (.int .i64 0) := bcl BK742 3
 have hfs16 := blk_frozen BK742.out 3
 have hns16_0 := NB739_742.out
 have hns16_1 := NB740_742.out
 have hns16_2 := NB741_742.out
 have hms16_0 := NB742_739.out
 have hms16_1 := NB742_740.out
 have hms16_2 := NB742_741.out
 have hs17 : w12.cell? ⟨gb742, 4, none⟩ = some (.int .i64 0) := bcl BK742 4
 have hfs17 := blk_frozen BK742.out 4
 have hns17_0 := NB739_742.out
 have hns17_1 := NB740_742.out
 have hns17_2 := NB741_742.out
 have hms17_0 := NB742_739.out
 have hms17_1 := NB742_740.out
 have hms17_2 := NB742_741.out
 have hs18 : w12.cell? ⟨gb742, 5, none⟩ = some (.int .i64 0) := bcl BK742 5
 have hfs18 := blk_frozen BK742.out 5
 have hns18_0 := NB739_742.out
 have hns18_1 := NB740_742.out
 have hns18_2 := NB741_742.out
 have hms18_0 := NB742_739.out
 have hms18_1 := NB742_740.out
 have hms18_2 := NB742_741.out
 refine skip_ (w1 := ?_) (by rfl) rfl ?_ ?_
 rotate_left
 ·go_simp
  rfl
 refine hK.out _ _ ⟨(cf NB739_742 ((cf NB739_742 ((cf NB739_742 ((cf NB739_742 ((cf NB739_742 ((cf NB739_742 (hHeld.1)))))))))))), (cf NB739_742 ((cf NB739_742 ((cf NB739_742 ((cf NB739_742 ((cf NB739_742 ((cf NB739_742 (hHeld.2.1)))))))))))), (cf NB739_742 ((cf NB739_742 ((cf NB739_742 ((cf NB739_742 ((cf NB739_742 ((cf NB739_742 (hHeld.2.2.1)))))))))))), (cf NB740_742 ((cf NB740_742 ((cf NB740_742 ((cf NB740_742 ((cf NB740_742 ((cf NB740_742 (hHeld.2.2.2.1)))))))))))), (cf NB740_742 ((cf NB740_742 ((cf NB740_742 ((cf NB740_742 ((cf NB740_742 ((cf NB740_742 (hHeld.2.2.2.2.1)))))))))))), (cf NB740_742 ((cf NB740_742 ((cf NB740_742 ((cf NB740_742 ((cf NB740_742 ((cf NB740_742 (hHeld.2.2.2.2.2.1)))))))))))), (cf NB740_742 ((cf NB740_742 ((cf NB740_742 ((cf NB740_742 ((cf NB740_742 ((cf NB740_742 (hHeld.2.2.2.2.2.2.1)))))))))))), (cf NB740_742 ((cf NB740_742 ((cf NB740_742 ((cf NB740_742 ((cf NB740_742 ((cf NB740_742 (hHeld.2.2.2.2.2.2.2.1)))))))))))), (cf NB740_742 ((cf NB740_742 ((cf NB740_742 ((cf NB740_742 ((cf NB740_742 ((cf NB740_742 (hHeld.2.2.2.2.2.2.2.2.1)))))))))))), (cf NB741_742 ((cf NB741_742 ((cf NB741_742 ((cf NB741_742 ((cf NB741_742 ((cf NB741_742 (hHeld.2.2.2.2.2.2.2.2.2.1)))))))))))), (cf NB741_742 ((cf NB741_742 ((cf NB741_742 ((cf NB741_742 ((cf NB741_742 ((cf NB741_742 (hHeld.2.2.2.2.2.2.2.2.2.2.1)))))))))))), (cf NB741_742 ((cf NB741_742 ((cf NB741_742 ((cf NB741_742 ((cf NB741_742 ((cf NB741_742 (hHeld.2.2.2.2.2.2.2.2.2.2.2.1)))))))))))), (cf NB741_742 ((cf NB741_742 ((cf NB741_742 ((cf NB741_742 ((cf NB741_742 ((cf NB741_742 (hHeld.2.2.2.2.2.2.2.2.2.2.2.2.1)))))))))))), (cf NB741_742 ((cf NB741_742 ((cf NB741_742 ((cf NB741_742 ((cf NB741_742 ((cf NB741_742 (hHeld.2.2.2.2.2.2.2.2.2.2.2.2.2.1)))))))))))), (cf NB741_742 ((cf NB741_742 ((cf NB741_742 ((cf NB741_742 ((cf NB741_742 ((cf NB741_742 (hHeld.2.2.2.2.2.2.2.2.2.2.2.2.2.2))))))))))))⟩ (fun hHeld => ?_)
 clear hK K
 refine done_ (by kernel_rfl) ?_
 try go_wp2
 refine bodyPost_ret (results_cell_row rfl _ _ gb742 55 #[.int .i64 t749, .int .i64 t750, .int .i64 t751, .int .i64 t752, .int .i64 t753, .int .i64 t754] (0, 0) _ rfl (bq0 BK742) Try.underlying55 rfl (by kernel_rfl)) rfl ?_
 exact er (bbw4 HB GE739 GE740 GE741 GE742)
/-! ### impl_Mat_inverse: function 83 -/
def impl_Mat_inverse.f (a0_0 : Int) (a0_1 : Int) (a0_2 : Int) (a0_3 : Int) : Option (Int × Int × Int × Int) := (impl_Mat_det.f a0_0 a0_1 a0_2 a0_3).bind fun t757 => (some (wrap64 (t757 * a0_3), wrap64 ((wrap64 (-t757)) * a0_1), wrap64 ((wrap64 (-t757)) * a0_2), wrap64 (t757 * a0_0)))
set_option maxHeartbeats 8000000 in
set_option maxRecDepth 100000 in
theorem impl_Mat_inverse.calls (a0_0 : Int) (a0_1 : Int) (a0_2 : Int) (a0_3 : Int) (r1 : Int) (r2 : Int) (r3 : Int) (r4 : Int) (w : World) (h : impl_Mat_inverse.f a0_0 a0_1 a0_2 a0_3 = some (r1, r2, r3, r4)) :
  Calls Try.prog 83 #[.agg #[.int .i64 a0_0, .int .i64 a0_1, .int .i64 a0_2, .int .i64 a0_3]] w fun e w' => e = .returned (.agg #[.int .i64 r1, .int .i64 r2, .int .i64 r3, .int .i64 r4]) ∧ Below w.heap.size w w' := by
 have hu51 := Try.underlying51
 have HB := asd (Below.refl w.heap.size w)
 have H : ((impl_Mat_det.f a0_0 a0_1 a0_2 a0_3).bind fun t757 => (some (wrap64 (t757 * a0_3), wrap64 ((wrap64 (-t757)) * a0_1), wrap64 ((wrap64 (-t757)) * a0_2), wrap64 (t757 * a0_0)))) = some (r1, r2, r3, r4) := h
 clear h
 obtain ⟨t757, A2, H⟩ := ob H
 try dsimp only at H
 simp only [Option.some.injEq, Prod.mk.injEq] at H
 obtain ⟨rfl, rfl, rfl, rfl⟩ := H
 go_enter Try.func83, Try.ntmps83
 go_wp2_with (first | ((with_reducible refine gd 1 rfl ?_); refine bx #[.int .i64 a0_0, .int .i64 a0_1, .int .i64 a0_2, .int .i64 a0_3] 51 ?_; intro gb755 hg w3 BK755 hb; have GE755 := ngw0 hg HB; replace HB := bS0 HB hb; clear hb hg) | ((with_reducible refine gd 2 rfl ?_); refine bx #[.int .i64 0, .int .i64 0, .int .i64 0, .int .i64 0] 51 ?_; intro gb756 hg w4 BK756 hb; have GE756 := ngw1 hg HB GE755; replace HB := bS1 HB GE755 hb; have NB755_756 := nlt hg BK755; have NB756_755 := nsy (nlt hg BK755); replace BK755 := bB BK755 hb; clear hb hg; have hnb5 := NB755_756.out; have hnc5 := NB756_755.out; obtain ⟨hcz6_0, hcz6_1, hcz6_2, hcz6_3, hfz6_0, hfz6_1, hfz6_2, hfz6_3⟩ := bz4 BK755) | ((with_reducible refine gate_callee (f := 70) rfl ?_); refine gl 5 Try.func70 #[.agg #[.int .i64 a0_0, .int .i64 a0_1, .int .i64 a0_2, .int .i64 a0_3]] ?_; (with_reducible refine (impl_Mat_det.calls _ _ _ _ _ _ A2.out).mono ?_); rintro e w7 ⟨rfl, hb⟩; refine ⟨_, rfl, ?_⟩; replace BK755 := bB BK755 hb; replace BK756 := bB BK756 hb; replace HB := bS2 HB GE755 GE756 hb; (try clear hb); obtain ⟨hcz8_0, hcz8_1, hcz8_2, hcz8_3, hfz8_0, hfz8_1, hfz8_2, hfz8_3⟩ := bz4 BK755; obtain ⟨hcz9_0, hcz9_1, hcz9_2, hcz9_3, hfz9_0, hfz9_1, hfz9_2, hfz9_3⟩ := bz4 BK756))
 refine bodyPost_ret (results_cell_row rfl _ _ gb756 51 #[.int .i64 (wrap64 (t757 * a0_3)), .int .i64 (wrap64 ((wrap64 (-t757)) * a0_1)), .int .i64 (wrap64 ((wrap64 (-t757)) * a0_2)), .int .i64 (wrap64 (t757 * a0_0))] (0, 0) _ rfl (bq0 BK756) Try.underlying51 rfl (by kernel_rfl)) rfl ?_
 exact er (bbw2 HB GE755 GE756)
/-! ### impl_Vec_times: function 84 -/
def impl_Vec_times.f (a0_0 : Int) (a0_1 : Int) (a1 : Int) : Option (Int × Int) := some (wrap64 (a1 * a0_0), wrap64 (a1 * a0_1))
set_option maxHeartbeats 8000000 in
set_option maxRecDepth 100000 in
theorem impl_Vec_times.calls (a0_0 : Int) (a0_1 : Int) (a1 : Int) (r1 : Int) (r2 : Int) (w : World) (h : impl_Vec_times.f a0_0 a0_1 a1 = some (r1, r2)) :
  Calls Try.prog 84 #[.agg #[.int .i64 a0_0, .int .i64 a0_1], .int .i64 a1] w fun e w' => e = .returned (.agg #[.int .i64 r1, .int .i64 r2]) ∧ Below w.heap.size w w' := by
 have hu53 := Try.underlying53
 have HB := asd (Below.refl w.heap.size w)
 have H : (some (wrap64 (a1 * a0_0), wrap64 (a1 * a0_1))) = some (r1, r2) := h
 clear h
 simp only [Option.some.injEq, Prod.mk.injEq] at H
 obtain ⟨rfl, rfl⟩ := H
 go_enter Try.func84, Try.ntmps84
 go_wp2_with (first | ((with_reducible refine gd 2 rfl ?_); refine bx #[.int .i64 a0_0, .int .i64 a0_1] 53 ?_; intro gb758 hg w3 BK758 hb; have GE758 := ngw0 hg HB; replace HB := bS0 HB hb; clear hb hg) | ((with_reducible refine gd 4 rfl ?_); refine bx #[.int .i64 0, .int .i64 0] 53 ?_; intro gb759 hg w4 BK759 hb; have GE759 := ngw1 hg HB GE758; replace HB := bS1 HB GE758 hb; have NB758_759 := nlt hg BK758; have NB759_758 := nsy (nlt hg BK758); replace BK758 := bB BK758 hb; clear hb hg; have hnb5 := NB758_759.out; have hnc5 := NB759_758.out; obtain ⟨hcz6_0, hcz6_1, hfz6_0, hfz6_1⟩ := bz2 BK758; obtain ⟨hcz7_0, hcz7_1, hfz7_0, hfz7_1⟩ := bz2 BK759))
 refine bodyPost_ret (results_cell_row rfl _ _ gb759 53 #[.int .i64 (wrap64 (a1 * a0_0)), .int .i64 (wrap64 (a1 * a0_1))] (0, 0) _ rfl (bq0 BK759) Try.underlying53 rfl (by kernel_rfl)) rfl ?_
 exact er (bbw2 HB GE758 GE759)
/-! ### impl_Motion_inverse: function 52 -/
def impl_Motion_inverse.f (a0_0 : Int) (a0_1 : Int) (a0_2 : Int) (a0_3 : Int) (a0_4 : Int) (a0_5 : Int) : Option (Int × Int × Int × Int × Int × Int) := (impl_Mat_inverse.f a0_0 a0_1 a0_2 a0_3).bind fun bt762 => ((impl_Mat_apply.f bt762.1 bt762.2.1 bt762.2.2.1 bt762.2.2.2 a0_4 a0_5).bind fun bt767 => ((impl_Vec_times.f bt767.1 bt767.2 (-1)).bind fun bt769 => (some (bt762.1, bt762.2.1, bt762.2.2.1, bt762.2.2.2, bt769.1, bt769.2))))
def impl_Motion_inverse.T2 : Bool × List (List Nat × List Nat) := (true, [([], []), ([], []), ([], []), ([2], [2]), ([1, 3], [1, 3]), ([4, 4], [4]), ([0, 5], [0, 5]), ([6, 5, 0, 1, 2, 3, 4, 5, 6], [6])])
def impl_Motion_inverse.B2 : List Nat := [0, 0, 0, 4, 14, 30, 63, 127]
theorem impl_Motion_inverse.tab2 : rtab .any (opsOf Try.f52 2) = impl_Motion_inverse.T2 := by kernel_rfl
theorem impl_Motion_inverse.bits2 : waitsOk impl_Motion_inverse.T2.2 impl_Motion_inverse.B2 = true := by kernel_rfl
set_option maxHeartbeats 8000000 in
set_option maxRecDepth 100000 in
theorem impl_Motion_inverse.calls (a0_0 : Int) (a0_1 : Int) (a0_2 : Int) (a0_3 : Int) (a0_4 : Int) (a0_5 : Int) (r1 : Int) (r2 : Int) (r3 : Int) (r4 : Int) (r5 : Int) (r6 : Int) (w : World) (h : impl_Motion_inverse.f a0_0 a0_1 a0_2 a0_3 a0_4 a0_5 = some (r1, r2, r3, r4, r5, r6)) :
  Calls Try.prog 52 #[.agg #[.int .i64 a0_0, .int .i64 a0_1, .int .i64 a0_2, .int .i64 a0_3, .int .i64 a0_4, .int .i64 a0_5]] w fun e w' => e = .returned (.agg #[.int .i64 r1, .int .i64 r2, .int .i64 r3, .int .i64 r4, .int .i64 r5, .int .i64 r6]) ∧ Below w.heap.size w w' := by
 have hu55 := Try.underlying55
 have hu51 := Try.underlying51
 have hu53 := Try.underlying53
 have HB := asd (Below.refl w.heap.size w)
 have H : ((impl_Mat_inverse.f a0_0 a0_1 a0_2 a0_3).bind fun bt762 => ((impl_Mat_apply.f bt762.1 bt762.2.1 bt762.2.2.1 bt762.2.2.2 a0_4 a0_5).bind fun bt767 => ((impl_Vec_times.f bt767.1 bt767.2 (-1)).bind fun bt769 => (some (bt762.1, bt762.2.1, bt762.2.2.1, bt762.2.2.2, bt769.1, bt769.2))))) = some (r1, r2, r3, r4, r5, r6) := h
 clear h
 obtain ⟨⟨t762, t763, t764, t765⟩, A2, H⟩ := ob H
 try dsimp only at H
 obtain ⟨⟨t767, t768⟩, A3, H⟩ := ob H
 try dsimp only at H
 obtain ⟨⟨t769, t770⟩, A4, H⟩ := ob H
 try dsimp only at H
 simp only [Option.some.injEq, Prod.mk.injEq] at H
 obtain ⟨rfl, rfl, rfl, rfl, rfl, rfl⟩ := H
 go_enter Try.func52, Try.ntmps52
 try go_wp2_with (first | ((with_reducible refine gd 1 rfl ?_); refine bx #[.int .i64 a0_0, .int .i64 a0_1, .int .i64 a0_2, .int .i64 a0_3, .int .i64 a0_4, .int .i64 a0_5] 55 ?_; intro gb760 hg w5 BK760 hb; have GE760 := ngw0 hg HB; replace HB := bS0 HB hb; clear hb hg) | ((with_reducible refine gd 2 rfl ?_); refine bx #[.int .i64 0, .int .i64 0, .int .i64 0, .int .i64 0, .int .i64 0, .int .i64 0] 55 ?_; intro gb761 hg w6 BK761 hb; have GE761 := ngw1 hg HB GE760; replace HB := bS1 HB GE760 hb; have NB760_761 := nlt hg BK760; have NB761_760 := nsy (nlt hg BK760); replace BK760 := bB BK760 hb; clear hb hg; have hnb7 := NB760_761.out; have hnc7 := NB761_760.out; obtain ⟨hcz8_0, hcz8_1, hcz8_2, hcz8_3, hcz8_4, hcz8_5, hfz8_0, hfz8_1, hfz8_2, hfz8_3, hfz8_4, hfz8_5⟩ := bz6 BK760) | ((with_reducible refine gate_callee (f := 83) rfl ?_); refine gl 6 Try.func83 #[.agg #[.int .i64 a0_0, .int .i64 a0_1, .int .i64 a0_2, .int .i64 a0_3]] ?_; (with_reducible refine (impl_Mat_inverse.calls _ _ _ _ _ _ _ _ _ A2.out).mono ?_); rintro e w9 ⟨rfl, hb⟩; refine ⟨_, rfl, ?_⟩; replace BK760 := bB BK760 hb; replace BK761 := bB BK761 hb; replace HB := bS2 HB GE760 GE761 hb; (try clear hb)) | ((with_reducible refine gd 3 rfl ?_); refine bx #[.int .i64 0, .int .i64 0, .int .i64 0, .int .i64 0] 51 ?_; intro gb766 hg w10 BK766 hb; have GE766 := ngw2 hg HB GE760 GE761; replace HB := bS2 HB GE760 GE761 hb; have NB760_766 := nlt hg BK760; have NB766_760 := nsy (nlt hg BK760); replace BK760 := bB BK760 hb; have NB761_766 := nlt hg BK761; have NB766_761 := nsy (nlt hg BK761); replace BK761 := bB BK761 hb; clear hb hg; have hnb11 := NB766_760.out; have hnc11 := NB760_766.out; have hnb12 := NB766_761.out; have hnc12 := NB761_766.out; obtain ⟨hcz13_0, hcz13_1, hcz13_2, hcz13_3, hfz13_0, hfz13_1, hfz13_2, hfz13_3⟩ := bz4 BK766))
 obtain ⟨w14, h_w14⟩ : ∃ w_, ((((w10.setCell ⟨gb766, 0, none⟩ (.int .i64 t762)).setCell ⟨gb766, 1, none⟩ (.int .i64 t763)).setCell ⟨gb766, 2, none⟩ (.int .i64 t764)).setCell ⟨gb766, 3, none⟩ (.int .i64 t765)) = w_ := ⟨_, rfl⟩
 replace BK760 : Aside0 (w14.heap[gb760]? = some (.cells #[.int .i64 a0_0, .int .i64 a0_1, .int .i64 a0_2, .int .i64 a0_3, .int .i64 a0_4, .int .i64 a0_5] 55 (0, 0))) := by rw [← h_w14]; exact ⟨bq1 BK760 NB760_766⟩
 replace BK761 : Aside0 (w14.heap[gb761]? = some (.cells #[.int .i64 0, .int .i64 0, .int .i64 0, .int .i64 0, .int .i64 0, .int .i64 0] 55 (0, 0))) := by rw [← h_w14]; exact ⟨bq1 BK761 NB761_766⟩
 replace BK766 : Aside0 (w14.heap[gb766]? = some (.cells #[.int .i64 t762, .int .i64 t763, .int .i64 t764, .int .i64 t765] 51 (0, 0))) := by rw [← h_w14]; exact ⟨bq0 BK766⟩
 replace HB : Aside0 (Below w.heap.size w w14) := by rw [← h_w14]; exact ⟨bbw3 HB GE760 GE761 GE766⟩
 (try rw [h_w14]); clear h_w14
 replace BK760 := asd (blk_drew BK760.out)
 replace BK761 := asd (blk_drew BK761.out)
 replace BK766 := asd (blk_drew BK766.out)
 replace HB := asd (below_drew1 HB.out)
 refine sh 8 (cb4 BK766 (eb6 BK760)) (fun hHeld => ?_); refine with_tabW impl_Motion_inverse.tab2 impl_Motion_inverse.bits2 (fun HT_ HW_ => ?_)
 generalize w14.drew = w15 at BK760 BK761 BK766 HB hHeld ⊢
 refine pu 2 (some 9) (bs 8 4) HT_ ?_
 refine ta 0 (some 7) (bs 8 5) HT_ HW_ hHeld ?_
 refine ta 1 (some 8) (bt 8 3) HT_ HW_ hHeld ?_
 refine ta 3 (some 10) (bt 8 4) HT_ HW_ hHeld ?_
 refine ro 4 (some 11) (bt 8 5) HT_ (fun K hK => ?_)
 refine gs Try.func81 #[.agg #[.int .i64 t762, .int .i64 t763, .int .i64 t764, .int .i64 t765], .agg #[.int .i64 a0_4, .int .i64 a0_5]] ?_
 with_reducible refine (impl_Mat_apply.calls _ _ _ _ _ _ _ _ _ A3.out).mono ?_
 rintro e w16 ⟨rfl, hb⟩
 refine ⟨_, rfl, ?_⟩
 replace BK760 := bB BK760 hb
 replace BK761 := bB BK761 hb
 replace BK766 := bB BK766 hb
 replace HB := bS3 HB GE760 GE761 GE766 hb
 (try clear hb)
 (try clear hb2)
 (try clear hk)
 (try clear hi)
 refine hK.out _ _ (cb4 BK766 (eb6 BK760)).out (fun hHeld => ?_)
 clear hK K
 refine norm_ (a' := ?_) ?_ ?_
 rotate_left
 ·show Act.put _ (some 11) _ = _
  simp only [Act.put, sA, sB, sC, i64_w, i32_w]
  rfl
 refine ro 5 (some 12) (bt 8 6) HT_ (fun K hK => ?_)
 refine gs Try.func84 #[.agg #[.int .i64 t767, .int .i64 t768], .int .i64 (-1)] ?_
 with_reducible refine (impl_Vec_times.calls _ _ _ _ _ _ A4.out).mono ?_
 rintro e w17 ⟨rfl, hb⟩
 refine ⟨_, rfl, ?_⟩
 replace BK760 := bB BK760 hb
 replace BK761 := bB BK761 hb
 replace BK766 := bB BK766 hb
 replace HB := bS3 HB GE760 GE761 GE766 hb
 (try clear hb)
 (try clear hb2)
 (try clear hk)
 (try clear hi)
 refine hK.out _ _ (cb4 BK766 (eb6 BK760)).out (fun hHeld => ?_)
 clear hK K
 refine norm_ (a' := ?_) ?_ ?_
 rotate_left
 ·show Act.put _ (some 12) _ = _
  simp only [Act.put, sA, sB, sC, i64_w, i32_w]
  rfl
 refine pu 6 (some 13) (bt 8 7) HT_ ?_
 refine ro 7 (none) (bt 8 8) HT_ (fun K hK => ?_)
 have hs18 : w17.cell? ⟨gb761, 0, none⟩ = some (.int .i64 0) := bcl BK761 0
 have hfs18 := blk_frozen BK761.out 0
 have hns18_0 := NB760_761.out
 have hns18_2 := NB766_761.out
 have hms18_0 := NB761_760.out
 have hms18_2 := NB761_766.out
 have hs19 : w17.cell? ⟨gb761, 1, none⟩ = some (.int .i64 0) := bcl BK761 1
 have hfs19 := blk_frozen BK761.out 1
 have hns19_0 := NB760_761.out
 have hns19_2 := NB766_761.out
 have hms19_0 := NB761_760.out
 have hms19_2 := NB761_766.out
 have hs20 : w17.cell? ⟨gb761, 2, none⟩ = some (.int .i64 0) := bcl BK761 2
 have hfs20 := blk_frozen BK761.out 2
 have hns20_0 := NB760_761.out
 have hns20_2 := NB766_761.out
 have hms20_0 := NB761_760.out
 have hms20_2 := NB761_766.out
 have hs21 : w17.cell? ⟨gb761, 3, none⟩ = some (.int .i64 0) := bcl BK761 3
 have hfs21 := blk_frozen BK761.out 3
 have hns21_0 := NB760_761.out
 have hns21_2 := NB766_761.out
 have hms21_0 := NB761_760.out
 have hms21_2 := NB761_766.out
 have hs22 : w17.cell? ⟨gb761, 4, none⟩ = some (.int .i64 0) := bcl BK761 4
 have hfs22 := blk_frozen BK761.out 4
 have hns22_0 := NB760_761.out
 have hns22_2 := NB766_761.out
 have hms22_0 := NB761_760.out
 have hms22_2 := NB761_766.out
 have hs23 : w17.cell? ⟨gb761, 5, none⟩ = some (.int .i64 0) := bcl BK761 5
 have hfs23 := blk_frozen BK761.out 5
 have hns23_0 := NB760_761.out
 have hns23_2 := NB766_761.out
 have hms23_0 := NB761_760.out
 have hms23_2 := NB761_766.out
 refine skip_ (w1 := ?_) (by rfl) rfl ?_ ?_
 rotate_left
 ·go_simp
  rfl
 refine hK.out _ _ ⟨(cf NB766_761 ((cf NB766_761 ((cf NB766_761 ((cf NB766_761 ((cf NB766_761 ((cf NB766_761 (hHeld.1)))))))))))), (cf NB766_761 ((cf NB766_761 ((cf NB766_761 ((cf NB766_761 ((cf NB766_761 ((cf NB766_761 (hHeld.2.1)))))))))))), (cf NB766_761 ((cf NB766_761 ((cf NB766_761 ((cf NB766_761 ((cf NB766_761 ((cf NB766_761 (hHeld.2.2.1)))))))))))), (cf NB766_761 ((cf NB766_761 ((cf NB766_761 ((cf NB766_761 ((cf NB766_761 ((cf NB766_761 (hHeld.2.2.2.1)))))))))))), (cf NB760_761 ((cf NB760_761 ((cf NB760_761 ((cf NB760_761 ((cf NB760_761 ((cf NB760_761 (hHeld.2.2.2.2.1)))))))))))), (cf NB760_761 ((cf NB760_761 ((cf NB760_761 ((cf NB760_761 ((cf NB760_761 ((cf NB760_761 (hHeld.2.2.2.2.2.1)))))))))))), (cf NB760_761 ((cf NB760_761 ((cf NB760_761 ((cf NB760_761 ((cf NB760_761 ((cf NB760_761 (hHeld.2.2.2.2.2.2.1)))))))))))), (cf NB760_761 ((cf NB760_761 ((cf NB760_761 ((cf NB760_761 ((cf NB760_761 ((cf NB760_761 (hHeld.2.2.2.2.2.2.2.1)))))))))))), (cf NB760_761 ((cf NB760_761 ((cf NB760_761 ((cf NB760_761 ((cf NB760_761 ((cf NB760_761 (hHeld.2.2.2.2.2.2.2.2.1)))))))))))), (cf NB760_761 ((cf NB760_761 ((cf NB760_761 ((cf NB760_761 ((cf NB760_761 ((cf NB760_761 (hHeld.2.2.2.2.2.2.2.2.2))))))))))))⟩ (fun hHeld => ?_)
 clear hK K
 refine done_ (done_of HT_.out (by kernel_rfl)) ?_
 try go_wp2
 refine bodyPost_ret (results_cell_row rfl _ _ gb761 55 #[.int .i64 t762, .int .i64 t763, .int .i64 t764, .int .i64 t765, .int .i64 t769, .int .i64 t770] (0, 0) _ rfl (bq0 BK761) Try.underlying55 rfl (by kernel_rfl)) rfl ?_
 exact er (bbw3 HB GE760 GE761 GE766)
/-! ### impl_IsNormal: function 23 -/
mutual
def impl_IsNormal.l0 : Nat → List (S55) → List (S55) → Int → Int → Int → Int → Int → Option (Bool × Int)
 | 0, _, _, _, _, _, _, _ => none
 | k + 1, x3, x23, x24, x25, x772000, x772001, x772002 => if x25 < x24 then (if 0 ≤ x25 then (if x25 < (x23.length : Int) then (impl_IsNormal.l1 k x3 x23 x24 x25 x3 (x3.length : Int) 0 x772000 x772001 x772002 ((rd_T55 x23 x25).f0.f0) ((rd_T55 x23 x25).f0.f1) ((rd_T55 x23 x25).f0.f2) ((rd_T55 x23 x25).f0.f3) ((rd_T55 x23 x25).f1.f0) ((rd_T55 x23 x25).f1.f1)) else (none)) else (none)) else (some (true, 0))
def impl_IsNormal.l1 : Nat → List (S55) → List (S55) → Int → Int → List (S55) → Int → Int → Int → Int → Int → Int → Int → Int → Int → Int → Int → Option (Bool × Int)
 | 0, _, _, _, _, _, _, _, _, _, _, _, _, _, _, _, _ => none
 | k + 1, x3, x23, x24, x25, x29, x30, x31, x772000, x772001, x772002, x775000, x775001, x775002, x775003, x775004, x775005 => if x31 < x30 then (if 0 ≤ x31 then (if x31 < (x29.length : Int) then ((impl_Motion_inverse.f x775000 x775001 x775002 x775003 x775004 x775005).bind fun bt777 => ((impl_Motion_times.f ((rd_T55 x29 x31).f0.f0) ((rd_T55 x29 x31).f0.f1) ((rd_T55 x29 x31).f0.f2) ((rd_T55 x29 x31).f0.f3) ((rd_T55 x29 x31).f1.f0) ((rd_T55 x29 x31).f1.f1) bt777.1 bt777.2.1 bt777.2.2.1 bt777.2.2.2.1 bt777.2.2.2.2.1 bt777.2.2.2.2.2).bind fun bt783 => ((impl_Lattice_compose.f x772000 x772001 x772002 x775000 x775001 x775002 x775003 x775004 x775005 bt783.1 bt783.2.1 bt783.2.2.1 bt783.2.2.2.1 bt783.2.2.2.2.1 bt783.2.2.2.2.2).bind fun bt789 => ((impl_Motion_49.f k x3 bt789.1 bt789.2.1 bt789.2.2.1 bt789.2.2.2.1 bt789.2.2.2.2.1 bt789.2.2.2.2.2).bind fun t795 => (if t795 = true then (impl_IsNormal.l1 k x3 x23 x24 x25 x29 x30 (wrap64 (x31 + 1)) x772000 x772001 x772002 x775000 x775001 x775002 x775003 x775004 x775005) else (some (false, 0))))))) else (none)) else (none)) else (impl_IsNormal.l0 k x3 x23 x24 (wrap64 (x25 + 1)) x772000 x772001 x772002)
end
def impl_IsNormal.f (k : Nat) (a0 : Int) (a1_0 : Int) (a1_1 : Int) (a1_2 : Int) (l2 : List (S55)) (l3 : List (S55)) : Option (Bool × Int) := (impl_subCode.f k a0 a1_0 a1_1 a1_2 l2 l3).bind fun t772 => (if t772 = 0 then (impl_IsNormal.l0 k l3 l2 (l2.length : Int) 0 a1_0 a1_1 a1_2) else (some (false, t772)))
def impl_IsNormal.T10 : Bool × List (List Nat × List Nat) := (true, [([], []), ([], []), ([], []), ([], []), ([], []), ([4], [4]), ([3, 5, 5], [3, 5]), ([1, 2, 6, 6], [1, 2, 6]), ([0, 7, 7], [0, 7]), ([8], [8])])
def impl_IsNormal.B10 : List Nat := [0, 0, 0, 0, 0, 16, 56, 126, 255, 511]
theorem impl_IsNormal.tab10 : rtab .any (opsOf Try.f23 10) = impl_IsNormal.T10 := by kernel_rfl
theorem impl_IsNormal.bits10 : waitsOk impl_IsNormal.T10.2 impl_IsNormal.B10 = true := by kernel_rfl
set_option maxHeartbeats 8000000 in
set_option maxRecDepth 100000 in
theorem impl_IsNormal.calls (k : Nat) (a0 : Int) (a1_0 : Int) (a1_1 : Int) (a1_2 : Int) (A2 : Option Addr) (c2 : Nat) (l2 : List (S55)) (A3 : Option Addr) (c3 : Nat) (l3 : List (S55)) (r1 : Bool) (r2 : Int) (w : World) (hr2 : Kd.C k55 w A2 l2.length l2) (hc2 : l2.length ≤ c2) (hr3 : Kd.C k55 w A3 l3.length l3) (hc3 : l3.length ≤ c3) (h : impl_IsNormal.f k a0 a1_0 a1_1 a1_2 l2 l3 = some (r1, r2)) :
  Calls Try.prog 23 #[.int .i64 a0, .agg #[.int .i64 a1_0, .int .i64 a1_1, .int .i64 a1_2], .slice A2 l2.length c2, .slice A3 l3.length c3] w fun e w' => e = .returned (.tuple #[.bool r1, .int .i64 r2]) ∧ Below w.heap.size w w' := by
 have hu27 := Try.underlying27
 have hu55 := Try.underlying55
 have HR2 := Aside0.mk hr2
 have HC2 := Aside0.mk hc2
 clear hr2 hc2
 have HR3 := Aside0.mk hr3
 have HC3 := Aside0.mk hc3
 clear hr3 hc3
 have HB := asd (Below.refl w.heap.size w)
 have H : ((impl_subCode.f k a0 a1_0 a1_1 a1_2 l2 l3).bind fun t772 => (if t772 = 0 then (impl_IsNormal.l0 k l3 l2 (l2.length : Int) 0 a1_0 a1_1 a1_2) else (some (false, t772)))) = some (r1, r2) := h
 clear h
 obtain ⟨t772, A5, H⟩ := ob H
 try dsimp only at H
 by_cases c6 : t772 = 0
 rw [if_pos c6] at H
 have c6b0 : (t772 == 0) = true := beq_iff_eq.mpr c6
 have c6b1 : (t772 != 0) = false := bne_eq_false_iff_eq.mpr c6
 clear c6
 have H' := Aside0.mk H
 clear H
 rotate_left
 rw [if_neg c6] at H
 have c6b0 : (t772 == 0) = false := beq_eq_false_iff_ne.mpr c6
 have c6b1 : (t772 != 0) = true := bne_iff_ne.mpr c6
 rotate_left
 rotate_left
 simp only [Option.some.injEq, Prod.mk.injEq] at H
 obtain ⟨rfl, rfl⟩ := H
 rotate_left
 all_goals
  go_enter Try.func23, Try.ntmps23
  go_wp2_with (first | ((with_reducible refine gd 5 rfl ?_); refine bx #[.int .i64 a1_0, .int .i64 a1_1, .int .i64 a1_2] 27 ?_; intro gb771 hg w7 BK771 hb; have GE771 := ngw0 hg HB; replace HB := bS0 HB hb; clear hb hg; obtain ⟨hcz8_0, hcz8_1, hcz8_2, hfz8_0, hfz8_1, hfz8_2⟩ := bz3 BK771) | ((with_reducible refine gate_callee (f := 48) rfl ?_); refine gl 19 Try.func48 #[.int .i64 a0, .agg #[.int .i64 a1_0, .int .i64 a1_1, .int .i64 a1_2], .slice A2 l2.length c2, .slice A3 l3.length c3] ?_; (with_reducible refine (impl_subCode.calls _ _ _ _ _ (fun k_ => k_ < w.heap.size) _ _ _ (fun k_ => k_ < w.heap.size) _ _ _ _ _ ?side1 ?side2 A5.out).mono ?_); (case side1 => exact Kd.V_mk HC2.out (Kd.F_below (Kd.C_F k55_heap HR2.out) (bbw1 HB GE771))); (case side2 => exact Kd.V_mk HC3.out (Kd.F_below (Kd.C_F k55_heap HR3.out) (bbw1 HB GE771))); rintro e w9 ⟨rfl, hb⟩; refine ⟨_, rfl, ?_⟩; replace BK771 := bB BK771 hb; replace HB := bS1 HB GE771 hb; (try clear hb)))
 ·go_loopg [25] k (fun kq v25 w' => ∃ (x25_1 : Int), v25 = .int .i64 x25_1 ∧ Aside0 (impl_IsNormal.l0 kq l3 l2 (l2.length : Int) x25_1 a1_0 a1_1 a1_2 = some (r1, r2)) ∧ Aside0 (kq ≤ k) ∧ Aside0 (w'.heap[gb771]? = some (.cells #[.int .i64 a1_0, .int .i64 a1_1, .int .i64 a1_2] 27 (0, 0))) ∧ Aside0 (Below w.heap.size w w'))
  case atStart => exact ⟨(0), (by first | rfl | (simp; done) | (simp [*]; done)), H', ⟨Nat.le_refl _⟩, ⟨bkp BK771⟩, ⟨bbw1 HB GE771⟩⟩
  case round =>
   clear H'
   try clear c2
   try clear p2
   try clear c3
   try clear c4
   try clear c6
   try clear c6b0
   try clear c6b1
   try clear hcz8_0
   try clear hcz8_1
   try clear hcz8_2
   try clear hfz8_0
   try clear hfz8_1
   try clear hfz8_2
   obtain ⟨x25_1, rfl, HA, HK1, BK771, HB⟩ := hrel
   cases gk with
   | zero => exact absurd HA.out (by simp [impl_IsNormal.l0])
   | succ k1 =>
    have H := HA.out
    clear HA
    simp only [impl_IsNormal.l0] at H
    by_cases c10 : x25_1 < (l2.length : Int)
    rw [if_pos c10] at H
    have c10b0 := decide_eq_true c10
    clear c10
    by_cases c11 : 0 ≤ x25_1
    rw [if_pos c11] at H
    have c11b0 := decide_eq_true c11
    clear c11
    by_cases c12 : x25_1 < (l2.length : Int)
    rw [if_pos c12] at H
    have c12b0 := decide_eq_true c12
    clear c12
    have H' := Aside0.mk H
    clear H
    rotate_left
    ·rw [if_neg c12] at H
     exact absurd H (by simp)
    ·rw [if_neg c11] at H
     exact absurd H (by simp)
    rw [if_neg c10] at H
    have c10b0 := decide_eq_false c10
    clear c10
    rotate_left
    ·obtain ⟨p773, q773, ad773, e773, hx773_0, hx773_1, hx773_2, hx773_3, hx773_4, hx773_5⟩ := at_T55x HR2.out HB x25_1
     cases e773
     go_wp2_with (first | ((with_reducible refine gd 12 rfl ?_); refine bx #[.int .i64 0, .int .i64 0, .int .i64 0, .int .i64 0, .int .i64 0, .int .i64 0] 55 ?_; intro gb774 hg w13 BK774 hb; have GE774 := ngw1 hg HB GE771; replace HB := bS1 HB GE771 hb; have NB771_774 := nlt hg BK771; have NB774_771 := nsy (nlt hg BK771); replace BK771 := bB BK771 hb; clear hb hg; have hnb14 := NB774_771.out; have hnc14 := NB771_774.out; obtain ⟨hcz15_0, hcz15_1, hcz15_2, hcz15_3, hcz15_4, hcz15_5, hfz15_0, hfz15_1, hfz15_2, hfz15_3, hfz15_4, hfz15_5⟩ := bz6 BK774))
     go_loopg [31] k1 (fun kq v31 w' => ∃ (x31_2 : Int), v31 = .int .i64 x31_2 ∧ Aside0 (impl_IsNormal.l1 kq l3 l2 (l2.length : Int) x25_1 l3 (l3.length : Int) x31_2 a1_0 a1_1 a1_2 ((rd_T55 l2 x25_1).f0.f0) ((rd_T55 l2 x25_1).f0.f1) ((rd_T55 l2 x25_1).f0.f2) ((rd_T55 l2 x25_1).f0.f3) ((rd_T55 l2 x25_1).f1.f0) ((rd_T55 l2 x25_1).f1.f1) = some (r1, r2)) ∧ Aside0 (kq ≤ k1) ∧ Aside0 (w'.heap[gb771]? = some (.cells #[.int .i64 a1_0, .int .i64 a1_1, .int .i64 a1_2] 27 (0, 0))) ∧ Aside0 (w'.heap[gb774]? = some (.cells #[.int .i64 ((rd_T55 l2 x25_1).f0.f0), .int .i64 ((rd_T55 l2 x25_1).f0.f1), .int .i64 ((rd_T55 l2 x25_1).f0.f2), .int .i64 ((rd_T55 l2 x25_1).f0.f3), .int .i64 ((rd_T55 l2 x25_1).f1.f0), .int .i64 ((rd_T55 l2 x25_1).f1.f1)] 55 (0, 0))) ∧ Aside0 (Below w.heap.size w w'))
     case atStart => exact ⟨(0), (by first | rfl | (simp; done) | (simp [*]; done)), H', ⟨Nat.le_refl _⟩, ⟨bq1 BK771 NB771_774⟩, ⟨bq0 BK774⟩, ⟨bbw2 HB GE771 GE774⟩⟩
     case round =>
      clear H'
      try clear c1
      try clear c2
      try clear p2
      try clear c3
      try clear c4
      try clear c6
      try clear c6b0
      try clear c6b1
      try clear p7
      try clear q7
      try clear hx7
      try clear c10
      try clear c10b0
      try clear c11
      try clear c11b0
      try clear c12
      try clear c12b0
      try clear c14
      try clear hcz15_0
      try clear hcz15_1
      try clear hcz15_2
      try clear hcz15_3
      try clear hcz15_4
      try clear hcz15_5
      try clear hcz8_0
      try clear hcz8_1
      try clear hcz8_2
      try clear hfz15_0
      try clear hfz15_1
      try clear hfz15_2
      try clear hfz15_3
      try clear hfz15_4
      try clear hfz15_5
      try clear hfz8_0
      try clear hfz8_1
      try clear hfz8_2
      try clear hx773_0
      try clear hx773_1
      try clear hx773_2
      try clear hx773_3
      try clear hx773_4
      try clear hx773_5
      try clear p2
      try clear p773
      try clear q773
      obtain ⟨x31_2, rfl, HA, HK2, BK771, BK774, HB⟩ := hrel
      cases gk with
      | zero => exact absurd HA.out (by simp [impl_IsNormal.l1])
      | succ k2 =>
       have H := HA.out
       clear HA
       simp only [impl_IsNormal.l1] at H
       by_cases c16 : x31_2 < (l3.length : Int)
       rw [if_pos c16] at H
       have c16b0 := decide_eq_true c16
       clear c16
       by_cases c17 : 0 ≤ x31_2
       rw [if_pos c17] at H
       have c17b0 := decide_eq_true c17
       clear c17
       by_cases c18 : x31_2 < (l3.length : Int)
       rw [if_pos c18] at H
       have c18b0 := decide_eq_true c18
       clear c18
       obtain ⟨⟨t777, t778, t779, t780, t781, t782⟩, A19, H⟩ := ob H
       try dsimp only at H
       obtain ⟨⟨t783, t784, t785, t786, t787, t788⟩, A20, H⟩ := ob H
       try dsimp only at H
       obtain ⟨⟨t789, t790, t791, t792, t793, t794⟩, A21, H⟩ := ob H
       try dsimp only at H
       obtain ⟨t795, A22, H⟩ := ob H
       try dsimp only at H
       by_cases c23 : t795 = true
       subst c23
       replace H := ifT H
       have H' := Aside0.mk H
       clear H
       rotate_left
       replace c23 := Bool.eq_false_iff.mpr c23
       subst c23
       replace H := ifF H
       rotate_left
       ·rw [if_neg c18] at H
        exact absurd H (by simp)
       ·rw [if_neg c17] at H
        exact absurd H (by simp)
       rw [if_neg c16] at H
       have c16b0 := decide_eq_false c16
       clear c16
       have H' := Aside0.mk H
       clear H
       rotate_left
       rotate_left
       simp only [Option.some.injEq, Prod.mk.injEq] at H
       obtain ⟨rfl, rfl⟩ := H
       rotate_left
       ·go_wp2
        go_roundg k2
        case measure => have := HK1.out; have := HK2.out; omega
        case rel => exact ⟨(wrap64 (x25_1 + 1)), (by first | rfl | (simp; done) | (simp [*]; done)), H', ⟨by have := HK1.out; have := HK2.out; omega⟩, ⟨bkp BK771⟩, ⟨bbw2 HB GE771 GE774⟩⟩
       all_goals
        obtain ⟨p775, q775, ad775, e775, hx775_0, hx775_1, hx775_2, hx775_3, hx775_4, hx775_5⟩ := at_T55x HR3.out HB x31_2
        cases e775
        try go_wp2_with (first | ((with_reducible refine gd 14 rfl ?_); refine bx #[.int .i64 0, .int .i64 0, .int .i64 0, .int .i64 0, .int .i64 0, .int .i64 0] 55 ?_; intro gb776 hg w24 BK776 hb; have GE776 := ngw2 hg HB GE771 GE774; replace HB := bS2 HB GE771 GE774 hb; have NB771_776 := nlt hg BK771; have NB776_771 := nsy (nlt hg BK771); replace BK771 := bB BK771 hb; have NB774_776 := nlt hg BK774; have NB776_774 := nsy (nlt hg BK774); replace BK774 := bB BK774 hb; clear hb hg; have hnb25 := NB776_771.out; have hnc25 := NB771_776.out; have hnb26 := NB776_774.out; have hnc26 := NB774_776.out; obtain ⟨hcz27_0, hcz27_1, hcz27_2, hcz27_3, hcz27_4, hcz27_5, hfz27_0, hfz27_1, hfz27_2, hfz27_3, hfz27_4, hfz27_5⟩ := bz6 BK776))
        obtain ⟨w28, h_w28⟩ : ∃ w_, ((((((w24.setCell ⟨gb776, 0, none⟩ (.int .i64 ((rd_T55 l3 x31_2).f0.f0))).setCell ⟨gb776, 1, none⟩ (.int .i64 ((rd_T55 l3 x31_2).f0.f1))).setCell ⟨gb776, 2, none⟩ (.int .i64 ((rd_T55 l3 x31_2).f0.f2))).setCell ⟨gb776, 3, none⟩ (.int .i64 ((rd_T55 l3 x31_2).f0.f3))).setCell ⟨gb776, 4, none⟩ (.int .i64 ((rd_T55 l3 x31_2).f1.f0))).setCell ⟨gb776, 5, none⟩ (.int .i64 ((rd_T55 l3 x31_2).f1.f1))) = w_ := ⟨_, rfl⟩
        replace BK771 : Aside0 (w28.heap[gb771]? = some (.cells #[.int .i64 a1_0, .int .i64 a1_1, .int .i64 a1_2] 27 (0, 0))) := by rw [← h_w28]; exact ⟨bq1 BK771 NB771_776⟩
        replace BK774 : Aside0 (w28.heap[gb774]? = some (.cells #[.int .i64 ((rd_T55 l2 x25_1).f0.f0), .int .i64 ((rd_T55 l2 x25_1).f0.f1), .int .i64 ((rd_T55 l2 x25_1).f0.f2), .int .i64 ((rd_T55 l2 x25_1).f0.f3), .int .i64 ((rd_T55 l2 x25_1).f1.f0), .int .i64 ((rd_T55 l2 x25_1).f1.f1)] 55 (0, 0))) := by rw [← h_w28]; exact ⟨bq1 BK774 NB774_776⟩
        replace BK776 : Aside0 (w28.heap[gb776]? = some (.cells #[.int .i64 ((rd_T55 l3 x31_2).f0.f0), .int .i64 ((rd_T55 l3 x31_2).f0.f1), .int .i64 ((rd_T55 l3 x31_2).f0.f2), .int .i64 ((rd_T55 l3 x31_2).f0.f3), .int .i64 ((rd_T55 l3 x31_2).f1.f0), .int .i64 ((rd_T55 l3 x31_2).f1.f1)] 55 (0, 0))) := by rw [← h_w28]; exact ⟨bq0 BK776⟩
        replace HB : Aside0 (Below w.heap.size w w28) := by rw [← h_w28]; exact ⟨bbw3 HB GE771 GE774 GE776⟩
        (try rw [h_w28]); clear h_w28
        replace BK771 := asd (blk_drew BK771.out)
        replace BK774 := asd (blk_drew BK774.out)
        replace BK776 := asd (blk_drew BK776.out)
        replace HB := asd (below_drew1 HB.out)
        refine sh 10 (cb3 BK771 (cb6 BK774 (eb6 BK776))) (fun hHeld => ?_); refine with_tabW impl_IsNormal.tab10 impl_IsNormal.bits10 (fun HT_ HW_ => ?_)
        generalize w28.drew = w29 at BK771 BK774 BK776 HB hHeld ⊢
        refine pu 0 (some 35) (bt 10 1) HT_ ?_
        refine ta 1 (some 36) (bt 10 2) HT_ HW_ hHeld ?_
        refine ta 2 (some 37) (bt 10 3) HT_ HW_ hHeld ?_
        refine ta 3 (some 38) (bt 10 4) HT_ HW_ hHeld ?_
        refine ta 4 (some 39) (bt 10 5) HT_ HW_ hHeld ?_
        refine ro 5 (some 40) (bt 10 6) HT_ (fun K hK => ?_)
        refine gs Try.func52 #[.agg #[.int .i64 ((rd_T55 l2 x25_1).f0.f0), .int .i64 ((rd_T55 l2 x25_1).f0.f1), .int .i64 ((rd_T55 l2 x25_1).f0.f2), .int .i64 ((rd_T55 l2 x25_1).f0.f3), .int .i64 ((rd_T55 l2 x25_1).f1.f0), .int .i64 ((rd_T55 l2 x25_1).f1.f1)]] ?_
        with_reducible refine (impl_Motion_inverse.calls _ _ _ _ _ _ _ _ _ _ _ _ _ A19.out).mono ?_
        rintro e w30 ⟨rfl, hb⟩
        refine ⟨_, rfl, ?_⟩
        replace BK771 := bB BK771 hb
        replace BK774 := bB BK774 hb
        replace BK776 := bB BK776 hb
        replace HB := bS3 HB GE771 GE774 GE776 hb
        (try clear hb)
        (try clear hb2)
        (try clear hk)
        (try clear hi)
        refine hK.out _ _ (cb3 BK771 (cb6 BK774 (eb6 BK776))).out (fun hHeld => ?_)
        clear hK K
        refine norm_ (a' := ?_) ?_ ?_
        rotate_left
        ·show Act.put _ (some 40) _ = _
         simp only [Act.put, sA, sB, sC, i64_w, i32_w]
         rfl
        refine ro 6 (some 41) (bt 10 7) HT_ (fun K hK => ?_)
        refine gs Try.func51 #[.agg #[.int .i64 ((rd_T55 l3 x31_2).f0.f0), .int .i64 ((rd_T55 l3 x31_2).f0.f1), .int .i64 ((rd_T55 l3 x31_2).f0.f2), .int .i64 ((rd_T55 l3 x31_2).f0.f3), .int .i64 ((rd_T55 l3 x31_2).f1.f0), .int .i64 ((rd_T55 l3 x31_2).f1.f1)], .agg #[.int .i64 t777, .int .i64 t778, .int .i64 t779, .int .i64 t780, .int .i64 t781, .int .i64 t782]] ?_
        with_reducible refine (impl_Motion_times.calls _ _ _ _ _ _ _ _ _ _ _ _ _ _ _ _ _ _ _ A20.out).mono ?_
        rintro e w31 ⟨rfl, hb⟩
        refine ⟨_, rfl, ?_⟩
        replace BK771 := bB BK771 hb
        replace BK774 := bB BK774 hb
        replace BK776 := bB BK776 hb
        replace HB := bS3 HB GE771 GE774 GE776 hb
        (try clear hb)
        (try clear hb2)
        (try clear hk)
        (try clear hi)
        refine hK.out _ _ (cb3 BK771 (cb6 BK774 (eb6 BK776))).out (fun hHeld => ?_)
        clear hK K
        refine norm_ (a' := ?_) ?_ ?_
        rotate_left
        ·show Act.put _ (some 41) _ = _
         simp only [Act.put, sA, sB, sC, i64_w, i32_w]
         rfl
        refine ro 7 (some 42) (bt 10 8) HT_ (fun K hK => ?_)
        refine gs Try.func50 #[.agg #[.int .i64 a1_0, .int .i64 a1_1, .int .i64 a1_2], .agg #[.int .i64 ((rd_T55 l2 x25_1).f0.f0), .int .i64 ((rd_T55 l2 x25_1).f0.f1), .int .i64 ((rd_T55 l2 x25_1).f0.f2), .int .i64 ((rd_T55 l2 x25_1).f0.f3), .int .i64 ((rd_T55 l2 x25_1).f1.f0), .int .i64 ((rd_T55 l2 x25_1).f1.f1)], .agg #[.int .i64 t783, .int .i64 t784, .int .i64 t785, .int .i64 t786, .int .i64 t787, .int .i64 t788]] ?_
        with_reducible refine (impl_Lattice_compose.calls _ _ _ _ _ _ _ _ _ _ _ _ _ _ _ _ _ _ _ _ _ _ A21.out).mono ?_
        rintro e w32 ⟨rfl, hb⟩
        refine ⟨_, rfl, ?_⟩
        replace BK771 := bB BK771 hb
        replace BK774 := bB BK774 hb
        replace BK776 := bB BK776 hb
        replace HB := bS3 HB GE771 GE774 GE776 hb
        (try clear hb)
        (try clear hb2)
        (try clear hk)
        (try clear hi)
        refine hK.out _ _ (cb3 BK771 (cb6 BK774 (eb6 BK776))).out (fun hHeld => ?_)
        clear hK K
        refine norm_ (a' := ?_) ?_ ?_
        rotate_left
        ·show Act.put _ (some 42) _ = _
         simp only [Act.put, sA, sB, sC, i64_w, i32_w]
         rfl
        refine ro 8 (some 43) (bt 10 9) HT_ (fun K hK => ?_)
        refine gs Try.func49 #[.slice (some ad775) l3.length c3, .agg #[.int .i64 t789, .int .i64 t790, .int .i64 t791, .int .i64 t792, .int .i64 t793, .int .i64 t794]] ?_
        with_reducible refine (impl_Motion_49.calls _ _ _ _ _ _ _ _ _ _ _ _ ?side1 ?side2 A22.out).mono ?_
        (case side1 => exact ks (Kd.C_below HR3.out HB.out))
        (case side2 => exact HC3.out)
        rintro e w33 ⟨rfl, hb⟩
        refine ⟨_, rfl, ?_⟩
        replace BK771 := bB BK771 hb
        replace BK774 := bB BK774 hb
        replace BK776 := bB BK776 hb
        replace HB := bS3 HB GE771 GE774 GE776 hb
        (try clear hb)
        (try clear hb2)
        (try clear hk)
        (try clear hi)
        refine hK.out _ _ (cb3 BK771 (cb6 BK774 (eb6 BK776))).out (fun hHeld => ?_)
        clear hK K
        refine norm_ (a' := ?_) ?_ ?_
        rotate_left
        ·show Act.put _ (some 43) _ = _
         simp only [Act.put, sA, sB, sC, i64_w, i32_w]
         rfl
        refine pu 9 (some 44) (bt 10 10) HT_ ?_
        refine done_ (done_of HT_.out (by kernel_rfl)) ?_
        try go_wp2
       ·go_roundg k2
        case measure => have := HK1.out; have := HK2.out; omega
        case rel => exact ⟨(wrap64 (x31_2 + 1)), (by first | rfl | (simp; done) | (simp [*]; done)), H', ⟨by have := HK1.out; have := HK2.out; omega⟩, ⟨bkp BK771⟩, ⟨bkp BK774⟩, ⟨bbw3 HB GE771 GE774 GE776⟩⟩
       ·go_ret2
        exact er (bbw3 HB GE771 GE774 GE776)
    ·simp only [Option.some.injEq, Prod.mk.injEq] at H
     obtain ⟨rfl, rfl⟩ := H
     go_wp2
     go_ret2
     exact er (bbw1 HB GE771)
 ·go_ret2
  exact er (bbw1 HB GE771)

end Go.Proofs.Ytcchmdodifkloaa.PA
