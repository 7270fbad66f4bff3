import Derived.Test.YtdodghjnlekgeaaGreatPAx0
import Derived.Test.YtdodghjnlekgeaaGreatPAx4
import Derived.Test.YtdodghjnlekgeaaGreatPAx16
import Derived.Test.YtdodghjnlekgeaaGreatPAx18
namespace Go.Proofs.YtdodghjnlekgeaaGreat.PA
open Go.RowKit Go.Proofs.YtdodghjnlekgeaaGreatW.PrintWords Go.Proofs.YtdodghjnlekgeaaGreatW.PrintLast Go.Proofs.YtdodghjnlekgeaaGreatW.PrintMore
attribute [local go_sem] max2_int min2_int max_two min_two max_three min_three max_four min_four   -- for this text's walks alone
set_option linter.unusedVariables false
set_option maxHeartbeats 8000000
set_option maxRecDepth 100000
set_option linter.unusedSimpArgs false
attribute [local go_sem high] eqA48
def impl_groupCode.l0 : Nat → Int → List (List (S48)) → Int → Int → Int → Int → Int → Option (Int)
 | 0, _, _, _, _, _, _, _ => none
 | k + 1, x0, x16, x17, x18, x587000, x587001, x587002 => if x18 < x17 then (if 0 ≤ x18 then (if x18 < (x16.length : Int) then ((impl_isGroup.f k x0 x587000 x587001 x587002 (rd_L7 x16 x18)).bind fun t589 => (if t589 = true then (impl_groupCode.l0 k x0 x16 x17 (wrap64 (x18 + 1)) x587000 x587001 x587002) else (some 2))) else (none)) else (none)) else (some 0)
def impl_groupCode.f (k : Nat) (a0 : Int) (a1_0 : Int) (a1_1 : Int) (a1_2 : Int) (l2 : List (List (S48))) : Option (Int) := (impl_frameCode.f a0 a1_0 a1_1 a1_2).bind fun t587 => (if t587 = 0 then (impl_groupCode.l0 k a0 l2 (l2.length : Int) 0 a1_0 a1_1 a1_2) else (some t587))
theorem impl_groupCode.calls (k : Nat) (a0 : Int) (a1_0 : Int) (a1_1 : Int) (a1_2 : Int) (A2 : Option Addr) (c2 : Nat) (l2 : List (List (S48))) (r : Int) (w : World) (hr2 : Kd.C (Kd.slice 48 k48) w A2 l2.length l2) (hc2 : l2.length ≤ c2) (h : impl_groupCode.f k a0 a1_0 a1_1 a1_2 l2 = some r) :
  Calls Tryz.prog 45 #[.int .i64 a0, .agg #[.int .i64 a1_0, .int .i64 a1_1, .int .i64 a1_2], .slice A2 l2.length c2] w fun e w' => e = .returned (.int .i64 r) ∧ Below w.heap.size w w' := by
 have hu29 := Tryz.underlying29
 have HR2 := Aside0.mk hr2
 have HC2 := Aside0.mk hc2
 clear hr2 hc2
 have HB := asd (Below.refl w.heap.size w)
 have H : ((impl_frameCode.f a0 a1_0 a1_1 a1_2).bind fun t587 => (if t587 = 0 then (impl_groupCode.l0 k a0 l2 (l2.length : Int) 0 a1_0 a1_1 a1_2) else (some t587))) = some r := h
 clear h
 obtain ⟨t587, A4, H⟩ := ob H
 try dsimp only at H
 by_cases c5 : t587 = 0
 rw [if_pos c5] at H
 have c5b0 : (t587 == 0) = true := beq_iff_eq.mpr c5
 have c5b1 : (t587 != 0) = false := bne_eq_false_iff_eq.mpr c5
 clear c5
 have H' := Aside0.mk H
 clear H
 rotate_left
 rw [if_neg c5] at H
 have c5b0 : (t587 == 0) = false := beq_eq_false_iff_ne.mpr c5
 have c5b1 : (t587 != 0) = true := bne_iff_ne.mpr c5
 obtain rfl := Option.some.inj H
 rotate_left
 all_goals
  go_enter Tryz.func45, Tryz.ntmps45
  go_wp2_with (first | ((with_reducible refine gd 4 rfl ?_); refine bx #[.int .i64 a1_0, .int .i64 a1_1, .int .i64 a1_2] 29 ?_; intro gb586 hg w6 BK586 hb; have GE586 := ngw0 hg HB; replace HB := bS0 HB hb; clear hb hg; obtain ⟨hcz7_0, hcz7_1, hcz7_2, hfz7_0, hfz7_1, hfz7_2⟩ := bz3 BK586) | ((with_reducible refine gate_callee (f := 33) rfl ?_); refine gl 12 Tryz.func33 #[.int .i64 a0, .agg #[.int .i64 a1_0, .int .i64 a1_1, .int .i64 a1_2]] ?_; (with_reducible refine (impl_frameCode.calls _ _ _ _ _ _ A4.out).mono ?_); rintro e w8 ⟨rfl, hb⟩; refine ⟨_, rfl, ?_⟩; replace BK586 := bB BK586 hb; replace HB := bS1 HB GE586 hb; (try clear hb)))
 ·go_loopg [18] k (fun kq v18 w' => ∃ (x18_1 : Int), v18 = .int .i64 x18_1 ∧ Aside0 (impl_groupCode.l0 kq a0 l2 (l2.length : Int) x18_1 a1_0 a1_1 a1_2 = some r) ∧ Aside0 (kq ≤ k) ∧ Aside0 (w'.heap[gb586]? = some (.cells #[.int .i64 a1_0, .int .i64 a1_1, .int .i64 a1_2] 29 (0, 0))) ∧ Aside0 (Below w.heap.size w w'))
  case atStart => exact ⟨(0), (by first | rfl | (simp; done) | (simp [*]; done)), H', ⟨Nat.le_refl _⟩, ⟨bkp BK586⟩, ⟨bbw1 HB GE586⟩⟩
  case round =>
   clear H'
   try clear c2
   try clear p2
   try clear c3
   try clear c4
   try clear c5
   try clear c5b0
   try clear c5b1
   try clear hcz7_0
   try clear hcz7_1
   try clear hcz7_2
   try clear hfz7_0
   try clear hfz7_1
   try clear hfz7_2
   obtain ⟨x18_1, rfl, HA, HK1, BK586, HB⟩ := hrel
   cases gk with
   | zero => exact absurd HA.out (by simp [impl_groupCode.l0])
   | succ k1 =>
    have H := HA.out
    clear HA
    simp only [impl_groupCode.l0] at H
    by_cases c9 : x18_1 < (l2.length : Int)
    rw [if_pos c9] at H
    have c9b0 := decide_eq_true c9
    clear c9
    by_cases c10 : 0 ≤ x18_1
    rw [if_pos c10] at H
    have c10b0 := decide_eq_true c10
    clear c10
    by_cases c11 : x18_1 < (l2.length : Int)
    rw [if_pos c11] at H
    have c11b0 := decide_eq_true c11
    clear c11
    obtain ⟨t589, A12, H⟩ := ob H
    try dsimp only at H
    by_cases c13 : t589 = true
    subst c13
    replace H := ifT H
    have H' := Aside0.mk H
    clear H
    rotate_left
    replace c13 := Bool.eq_false_iff.mpr c13
    subst c13
    replace H := ifF H
    obtain rfl := Option.some.inj H
    rotate_left
    ·rw [if_neg c11] at H
     exact absurd H (by simp)
    ·rw [if_neg c10] at H
     exact absurd H (by simp)
    rw [if_neg c9] at H
    have c9b0 := decide_eq_false c9
    clear c9
    obtain rfl := Option.some.inj H
    rotate_left
    rotate_left 2
    ·go_wp2
     go_ret
     exact er (bbw1 HB GE586)
    all_goals
     have p588 : 0 ≤ (x18_1 : Int) := od
     have q588 : x18_1 < (l2.length : Int) := od
     obtain ⟨ad588, A588_0, c588_0, e588, hx588_0, hl588_0, hi588_0⟩ := at_L7 HR2.out x18_1 p588 q588
     cases e588
     replace hx588_0 := xb HB hx588_0
     have HR588_0 := Aside0.mk hi588_0
     have HC588_0 := Aside0.mk hl588_0
     clear hi588_0 hl588_0
     replace p588 := eq_true p588
     replace q588 := eq_true q588
     obtain ⟨hcz14_0, hcz14_1, hcz14_2, hfz14_0, hfz14_1, hfz14_2⟩ := bz3 BK586
     go_wp2_with (first | ((with_reducible refine gate_callee (f := 81) rfl ?_); refine gl 25 Tryz.func81 #[.int .i64 a0, .agg #[.int .i64 a1_0, .int .i64 a1_1, .int .i64 a1_2], .slice A588_0 (rd_L7 l2 x18_1).length c588_0] ?_; (with_reducible refine (impl_isGroup.calls _ _ _ _ _ _ _ _ _ _ ?side1 ?side2 A12.out).mono ?_); (case side1 => exact ks (Kd.C_below HR588_0.out HB.out)); (case side2 => exact HC588_0.out); rintro e w15 ⟨rfl, hb⟩; refine ⟨_, rfl, ?_⟩; replace BK586 := bB BK586 hb; replace HB := bS1 HB GE586 hb; (try clear hb)))
    ·go_roundg k1
     case measure => have := HK1.out; omega
     case rel => exact ⟨(wrap64 (x18_1 + 1)), (by first | rfl | (simp; done) | (simp [*]; done)), H', ⟨by have := HK1.out; omega⟩, ⟨bkp BK586⟩, ⟨bbw1 HB GE586⟩⟩
    ·go_ret
     exact er (bbw1 HB GE586)
 ·go_ret
  exact er (bbw1 HB GE586)
def impl_smallCode.f (k : Nat) (a0 : Int) (a1_0 : Int) (a1_1 : Int) (a1_2 : Int) (l2 : List (S48)) : Option (Int) := (impl_groupCode.f k a0 a1_0 a1_1 a1_2 (([l2] : List (List (S48))))).bind fun t594 => (if t594 = 0 then (if (l2.length : Int) > 48 then (some 3) else (some 0)) else (some t594))
theorem impl_smallCode.calls (k : Nat) (a0 : Int) (a1_0 : Int) (a1_1 : Int) (a1_2 : Int) (P2_ : Nat → Prop) (A2 : Option Addr) (c2 : Nat) (l2 : List (S48)) (r : Int) (w : World) (hs2 : Kd.V k48 48 w w.heap.size (fun k_ => P2_ k_) (.slice A2 l2.length c2) l2) (h : impl_smallCode.f k a0 a1_0 a1_1 a1_2 l2 = some r) :
  Calls Tryz.prog 52 #[.int .i64 a0, .agg #[.int .i64 a1_0, .int .i64 a1_1, .int .i64 a1_2], .slice A2 l2.length c2] w fun e w' => e = .returned (.int .i64 r) ∧ Below w.heap.size w w' := by
 have hu29 := Tryz.underlying29
 have HO2 := asd (show Kd.V k48 48 w w.heap.size (fun k_ => (P2_ k_ ∨ w.heap.size ≤ k_)) (.slice A2 l2.length c2) l2 from Kd.V_mono hs2 (fun k_ hk => .inl hk))
 have HB := asd (Below.refl w.heap.size w)
 have H : ((impl_groupCode.f k a0 a1_0 a1_1 a1_2 (([l2] : List (List (S48))))).bind fun t594 => (if t594 = 0 then (if (l2.length : Int) > 48 then (some 3) else (some 0)) else (some t594))) = some r := h
 clear h
 obtain ⟨y591, hy591⟩ : ∃ y_ : List (List (S48)), y_ = (([l2] : List (List (S48)))) := ⟨_, rfl⟩
 replace H : ((impl_groupCode.f k a0 a1_0 a1_1 a1_2 y591).bind fun t594 => (if t594 = 0 then (if (l2.length : Int) > 48 then (some 3) else (some 0)) else (some t594))) = some r := by first | (rw [hy591]; with_reducible exact H) | (have H2_ := (Option.bind_some _ _).symm.trans H; rw [hy591]; with_reducible exact H2_) | (have H2_ := (Option.bind_some _ _).symm.trans H; with_reducible exact H2_) | with_reducible exact H | (rw [hy591]; exact H) | exact H
 have Ny591 := Aside0.mk hy591
 clear hy591
 obtain ⟨t594, A4, H⟩ := ob H
 try dsimp only at H
 by_cases c5 : t594 = 0
 rw [if_pos c5] at H
 have c5b0 : (t594 == 0) = true := beq_iff_eq.mpr c5
 have c5b1 : (t594 != 0) = false := bne_eq_false_iff_eq.mpr c5
 clear c5
 by_cases c6 : (l2.length : Int) > 48
 rw [if_pos c6] at H
 have c6b0 : decide (48 < (l2.length : Int)) = true := decide_eq_true c6
 have c6b1 : decide (48 < l2.length) = true := decide_eq_true (by omega)
 clear c6
 obtain rfl := Option.some.inj H
 rotate_left
 rw [if_neg c6] at H
 have c6b0 : decide (48 < (l2.length : Int)) = false := decide_eq_false c6
 have c6b1 : decide (48 < l2.length) = false := decide_eq_false (by omega)
 clear c6
 obtain rfl := Option.some.inj H
 rotate_left
 rw [if_neg c5] at H
 have c5b0 : (t594 == 0) = false := beq_eq_false_iff_ne.mpr c5
 have c5b1 : (t594 != 0) = true := bne_iff_ne.mpr c5
 obtain rfl := Option.some.inj H
 rotate_left
 all_goals
  go_enter Tryz.func52, Tryz.ntmps52
  go_wp2_with (first | ((with_reducible refine gd 4 rfl ?_); refine bx #[.int .i64 a1_0, .int .i64 a1_1, .int .i64 a1_2] 29 ?_; intro gb590 hg w7 BK590 hb; replace HO2 := asd (Kd.V_below (Kd.V_elderB (by (with_reducible repeat (first | apply Kd.V_alloc | apply Kd.V_drewN | apply Kd.V_drew)); exact HO2.out) gb590 (Nat.le_of_eq hg.symm)) hb); have GE590 := ngw0 hg HB; replace HB := bS0 HB hb; clear hb hg; obtain ⟨hcz8_0, hcz8_1, hcz8_2, hfz8_0, hfz8_1, hfz8_2⟩ := bz3 BK590) | ((with_reducible refine gd 11 rfl ?_); refine Kd.N_lit (Kd.slice 48 k48) _ 26 ?hg (N' := 11) ?hd (xs := ([l2] : List (List (S48)))) (inner := [.slice A2 l2.length c2]) (ok := (fun k_ => (P2_ k_ ∨ w.heap.size ≤ k_) ∧ k_ ≠ gb590)) (okp := (fun k_ => (P2_ k_ ∨ w.heap.size ≤ k_) ∧ k_ ≠ gb590)) ?hr ?hp (fun _ hk => hk) ((show ∀ k_, w7.heap.size ≤ k_ → (fun k_ => (P2_ k_ ∨ w.heap.size ≤ k_) ∧ k_ ≠ gb590) k_ from fun k_ hk => ⟨(.inr (Nat.le_trans (bsz1 HB GE590) hk)), Kd.freshB (g := gb590) (o := .cells #[.int .i64 a1_0, .int .i64 a1_1, .int .i64 a1_2] 29 (0, 0)) (bkp BK590) k_ hk⟩) _ (Nat.le_refl _)) (Below.refl _ _) (Nat.le_refl _) (by simp) ?_; (case hd => rfl); (case hg => rfl); (case hr => first | (go_simp; done) | (go_simp; rfl)); (case hp => exact (Reps.one (show Kd.FK (Kd.slice 48 k48) _ _ l2 [.slice A2 l2.length c2] from (Kd.FK_slice_mk (Kd.V_reads' (Kd.V_mono (ok' := (fun k_ => (P2_ k_ ∨ w.heap.size ≤ k_) ∧ k_ ≠ gb590)) (HO2.out) (fun k_ hk => ⟨hk.1, hk.2⟩))).2.1 (Kd.V_F (Kd.V_mono (ok' := (fun k_ => (P2_ k_ ∨ w.heap.size ≤ k_) ∧ k_ ≠ gb590)) (HO2.out) (fun k_ hk => ⟨hk.1, hk.2⟩))))) (Reps.none _ _))); intro v592 w9 ho10 hb hg_ hnew_; clear hg_ hnew_; (first | rw [← Ny591.out] at ho10 | (simp only [Int.reduceToNat] at ho10; rw [← Ny591.out] at ho10)); replace HO2 := asd (Kd.V_elder' (by (with_reducible repeat (first | apply Kd.V_alloc | apply Kd.V_drewN | apply Kd.V_drew)); exact HO2.out) (Kd.N_base ho10) hb); have HO593 := asd (Kd.N_lower ho10 (bsz1 HB GE590)); replace BK590 := bB BK590 hb; replace HB := bS1 HB GE590 hb; clear hb ho10; obtain ⟨Ao11, co11, eo11⟩ := Kd.N_slice HO593.out; subst eo11) | ((with_reducible refine gate_callee (f := 45) rfl ?_); refine gl 12 Tryz.func45 #[.int .i64 a0, .agg #[.int .i64 a1_0, .int .i64 a1_1, .int .i64 a1_2], .slice Ao11 y591.length co11] ?_; (with_reducible refine (impl_groupCode.calls _ _ _ _ _ _ _ _ _ _ ?side1 ?side2 A4.out).mono ?_); (case side1 => exact ks (Kd.N_reads' HO593.out).2.2); (case side2 => exact (Kd.N_reads' HO593.out).2.1); rintro e w12 ⟨rfl, hb⟩; refine ⟨_, rfl, ?_⟩; replace HO2 := asd (Kd.V_below (by (with_reducible repeat (first | apply Kd.V_alloc | apply Kd.V_drewN | apply Kd.V_drew)); exact HO2.out) hb); replace HO593 := asd (Kd.N_below (by (with_reducible repeat (first | apply Kd.N_alloc | apply Kd.N_drewN | apply Kd.N_drew)); exact HO593.out) hb); replace BK590 := bB BK590 hb; replace HB := bS1 HB GE590 hb; (try clear hb)))
  go_ret
  exact er (bbw1 HB GE590)
end Go.Proofs.YtdodghjnlekgeaaGreat.PA
