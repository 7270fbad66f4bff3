/- Walks written by program: each Go function that the law reaches comes to the plain function beside it. -/
import Derived.Test.YtilbokbfcmeleaaPAx0
import Derived.Test.YtilbokbfcmeleaaPAx4
import Derived.Test.YtilbokbfcmeleaaPAx11
import Derived.Test.YtilbokbfcmeleaaPAx14
namespace Go.Proofs.Ytilbokbfcmeleaa.PA
open Go.RowKit Go.Proofs.YtilbokbfcmeleaaW.PrintWords Go.Proofs.YtilbokbfcmeleaaW.PrintLast Go.Proofs.YtilbokbfcmeleaaW.PrintMore
attribute [local go_sem] max2_int min2_int max_two min_two max_three min_three max_four min_four   -- for this text's walks alone
set_option linter.unusedVariables false
set_option linter.unusedSimpArgs false

attribute [local go_sem high] eqA48
/-! ### impl_groupCode: function 22 -/
def impl_groupCode.l0 : Nat → Int → List (List (S48)) → Int → Int → Int → Int → Int → Option (Int)
 | 0, _, _, _, _, _, _, _ => none
 | k + 1, x0, x16, x17, x18, x535000, x535001, x535002 => if x18 < x17 then (if 0 ≤ x18 then (if x18 < (x16.length : Int) then ((impl_isGroup.f k x0 x535000 x535001 x535002 (rd_L9 x16 x18)).bind fun t537 => (if t537 = true then (impl_groupCode.l0 k x0 x16 x17 (wrap64 (x18 + 1)) x535000 x535001 x535002) else (some 2))) else (none)) else (none)) else (some 0)
def impl_groupCode.f (k : Nat) (a0 : Int) (a1_0 : Int) (a1_1 : Int) (a1_2 : Int) (l2 : List (List (S48))) : Option (Int) := (impl_frameCode.f a0 a1_0 a1_1 a1_2).bind fun t535 => (if t535 = 0 then (impl_groupCode.l0 k a0 l2 (l2.length : Int) 0 a1_0 a1_1 a1_2) else (some t535))
set_option maxHeartbeats 8000000 in
set_option maxRecDepth 100000 in
theorem impl_groupCode.calls (k : Nat) (a0 : Int) (a1_0 : Int) (a1_1 : Int) (a1_2 : Int) (A2 : Option Addr) (c2 : Nat) (l2 : List (List (S48))) (r : Int) (w : World) (hr2 : Kd.C (Kd.slice 48 k48) w A2 l2.length l2) (hc2 : l2.length ≤ c2) (h : impl_groupCode.f k a0 a1_0 a1_1 a1_2 l2 = some r) :
  Calls Try.prog 22 #[.int .i64 a0, .agg #[.int .i64 a1_0, .int .i64 a1_1, .int .i64 a1_2], .slice A2 l2.length c2] w fun e w' => e = .returned (.int .i64 r) ∧ Below w.heap.size w w' := by
 have hu29 := Try.underlying29
 have HR2 := Aside0.mk hr2
 have HC2 := Aside0.mk hc2
 clear hr2 hc2
 have HB := asd (Below.refl w.heap.size w)
 have H : ((impl_frameCode.f a0 a1_0 a1_1 a1_2).bind fun t535 => (if t535 = 0 then (impl_groupCode.l0 k a0 l2 (l2.length : Int) 0 a1_0 a1_1 a1_2) else (some t535))) = some r := h
 clear h
 obtain ⟨t535, A4, H⟩ := ob H
 try dsimp only at H
 by_cases c5 : t535 = 0
 rw [if_pos c5] at H
 have c5b0 : (t535 == 0) = true := beq_iff_eq.mpr c5
 have c5b1 : (t535 != 0) = false := bne_eq_false_iff_eq.mpr c5
 clear c5
 have H' := Aside0.mk H
 clear H
 rotate_left
 rw [if_neg c5] at H
 have c5b0 : (t535 == 0) = false := beq_eq_false_iff_ne.mpr c5
 have c5b1 : (t535 != 0) = true := bne_iff_ne.mpr c5
 obtain rfl := Option.some.inj H
 rotate_left
 all_goals
  go_enter Try.func22, Try.ntmps22
  go_wp2_with (first | ((with_reducible refine gd 4 rfl ?_); refine bx #[.int .i64 a1_0, .int .i64 a1_1, .int .i64 a1_2] 29 ?_; intro gb534 hg w6 BK534 hb; have GE534 := ngw0 hg HB; replace HB := bS0 HB hb; clear hb hg; obtain ⟨hcz7_0, hcz7_1, hcz7_2, hfz7_0, hfz7_1, hfz7_2⟩ := bz3 BK534) | ((with_reducible refine gate_callee (f := 50) rfl ?_); refine gl 12 Try.func50 #[.int .i64 a0, .agg #[.int .i64 a1_0, .int .i64 a1_1, .int .i64 a1_2]] ?_; (with_reducible refine (impl_frameCode.calls _ _ _ _ _ _ A4.out).mono ?_); rintro e w8 ⟨rfl, hb⟩; refine ⟨_, rfl, ?_⟩; replace BK534 := bB BK534 hb; replace HB := bS1 HB GE534 hb; (try clear hb)))
 ·go_loopg [18] k (fun kq v18 w' => ∃ (x18_1 : Int), v18 = .int .i64 x18_1 ∧ Aside0 (impl_groupCode.l0 kq a0 l2 (l2.length : Int) x18_1 a1_0 a1_1 a1_2 = some r) ∧ Aside0 (kq ≤ k) ∧ Aside0 (w'.heap[gb534]? = some (.cells #[.int .i64 a1_0, .int .i64 a1_1, .int .i64 a1_2] 29 (0, 0))) ∧ Aside0 (Below w.heap.size w w'))
  case atStart => exact ⟨(0), (by first | rfl | (simp; done) | (simp [*]; done)), H', ⟨Nat.le_refl _⟩, ⟨bkp BK534⟩, ⟨bbw1 HB GE534⟩⟩
  case round =>
   clear H'
   try clear c2
   try clear p2
   try clear c5
   try clear c5b0
   try clear c5b1
   try clear hcz7_0
   try clear hcz7_1
   try clear hcz7_2
   try clear hfz7_0
   try clear hfz7_1
   try clear hfz7_2
   obtain ⟨x18_1, rfl, HA, HK1, BK534, HB⟩ := hrel
   cases gk with
   | zero => exact absurd HA.out (by simp [impl_groupCode.l0])
   | succ k1 =>
    have H := HA.out
    clear HA
    simp only [impl_groupCode.l0] at H
    by_cases c9 : x18_1 < (l2.length : Int)
    rw [if_pos c9] at H
    have c9b0 := decide_eq_true c9
    clear c9
    by_cases c10 : 0 ≤ x18_1
    rw [if_pos c10] at H
    have c10b0 := decide_eq_true c10
    clear c10
    by_cases c11 : x18_1 < (l2.length : Int)
    rw [if_pos c11] at H
    have c11b0 := decide_eq_true c11
    clear c11
    obtain ⟨t537, A12, H⟩ := ob H
    try dsimp only at H
    by_cases c13 : t537 = true
    subst c13
    replace H := ifT H
    have H' := Aside0.mk H
    clear H
    rotate_left
    replace c13 := Bool.eq_false_iff.mpr c13
    subst c13
    replace H := ifF H
    obtain rfl := Option.some.inj H
    rotate_left
    ·rw [if_neg c11] at H
     exact absurd H (by simp)
    ·rw [if_neg c10] at H
     exact absurd H (by simp)
    rw [if_neg c9] at H
    have c9b0 := decide_eq_false c9
    clear c9
    obtain rfl := Option.some.inj H
    rotate_left
    rotate_left 2
    ·go_wp2
     go_ret
     exact er (bbw1 HB GE534)
    all_goals
     have p536 : 0 ≤ (x18_1 : Int) := od
     have q536 : x18_1 < (l2.length : Int) := od
     obtain ⟨ad536, A536_0, c536_0, e536, hx536_0, hl536_0, hi536_0⟩ := at_L9 HR2.out x18_1 p536 q536
     cases e536
     replace hx536_0 := xb HB hx536_0
     have HR536_0 := Aside0.mk hi536_0
     have HC536_0 := Aside0.mk hl536_0
     clear hi536_0 hl536_0
     replace p536 := eq_true p536
     replace q536 := eq_true q536
     obtain ⟨hcz14_0, hcz14_1, hcz14_2, hfz14_0, hfz14_1, hfz14_2⟩ := bz3 BK534
     go_wp2_with (first | ((with_reducible refine gate_callee (f := 51) rfl ?_); refine gl 25 Try.func51 #[.int .i64 a0, .agg #[.int .i64 a1_0, .int .i64 a1_1, .int .i64 a1_2], .slice A536_0 (rd_L9 l2 x18_1).length c536_0] ?_; (with_reducible refine (impl_isGroup.calls _ _ _ _ _ _ _ _ _ _ ?side1 ?side2 A12.out).mono ?_); (case side1 => exact ks (Kd.C_below HR536_0.out HB.out)); (case side2 => exact HC536_0.out); rintro e w15 ⟨rfl, hb⟩; refine ⟨_, rfl, ?_⟩; replace BK534 := bB BK534 hb; replace HB := bS1 HB GE534 hb; (try clear hb)))
    ·go_roundg k1
     case measure => have := HK1.out; omega
     case rel => exact ⟨(wrap64 (x18_1 + 1)), (by first | rfl | (simp; done) | (simp [*]; done)), H', ⟨by have := HK1.out; omega⟩, ⟨bkp BK534⟩, ⟨bbw1 HB GE534⟩⟩
    ·go_ret
     exact er (bbw1 HB GE534)
 ·go_ret
  exact er (bbw1 HB GE534)
/-! ### impl_smallCode: function 27 -/
def impl_smallCode.f (k : Nat) (a0 : Int) (a1_0 : Int) (a1_1 : Int) (a1_2 : Int) (l2 : List (S48)) : Option (Int) := (impl_groupCode.f k a0 a1_0 a1_1 a1_2 (([l2] : List (List (S48))))).bind fun t542 => (if t542 = 0 then (if (l2.length : Int) > 48 then (some 3) else (some 0)) else (some t542))
set_option maxHeartbeats 8000000 in
set_option maxRecDepth 100000 in
theorem impl_smallCode.calls (k : Nat) (a0 : Int) (a1_0 : Int) (a1_1 : Int) (a1_2 : Int) (P2_ : Nat → Prop) (A2 : Option Addr) (c2 : Nat) (l2 : List (S48)) (r : Int) (w : World) (hs2 : Kd.V k48 48 w w.heap.size (fun k_ => P2_ k_) (.slice A2 l2.length c2) l2) (h : impl_smallCode.f k a0 a1_0 a1_1 a1_2 l2 = some r) :
  Calls Try.prog 27 #[.int .i64 a0, .agg #[.int .i64 a1_0, .int .i64 a1_1, .int .i64 a1_2], .slice A2 l2.length c2] w fun e w' => e = .returned (.int .i64 r) ∧ Below w.heap.size w w' := by
 have hu29 := Try.underlying29
 have HO2 := asd (show Kd.V k48 48 w w.heap.size (fun k_ => (P2_ k_ ∨ w.heap.size ≤ k_)) (.slice A2 l2.length c2) l2 from Kd.V_mono hs2 (fun k_ hk => .inl hk))
 have HB := asd (Below.refl w.heap.size w)
 have H : ((impl_groupCode.f k a0 a1_0 a1_1 a1_2 (([l2] : List (List (S48))))).bind fun t542 => (if t542 = 0 then (if (l2.length : Int) > 48 then (some 3) else (some 0)) else (some t542))) = some r := h
 clear h
 obtain ⟨y539, hy539⟩ : ∃ y_ : List (List (S48)), y_ = (([l2] : List (List (S48)))) := ⟨_, rfl⟩
 replace H : ((impl_groupCode.f k a0 a1_0 a1_1 a1_2 y539).bind fun t542 => (if t542 = 0 then (if (l2.length : Int) > 48 then (some 3) else (some 0)) else (some t542))) = some r := by first | (rw [hy539]; with_reducible exact H) | (have H2_ := (Option.bind_some _ _).symm.trans H; rw [hy539]; with_reducible exact H2_) | (have H2_ := (Option.bind_some _ _).symm.trans H; with_reducible exact H2_) | with_reducible exact H | (rw [hy539]; exact H) | exact H
 have Ny539 := Aside0.mk hy539
 clear hy539
 obtain ⟨t542, A4, H⟩ := ob H
 try dsimp only at H
 by_cases c5 : t542 = 0
 rw [if_pos c5] at H
 have c5b0 : (t542 == 0) = true := beq_iff_eq.mpr c5
 have c5b1 : (t542 != 0) = false := bne_eq_false_iff_eq.mpr c5
 clear c5
 by_cases c6 : (l2.length : Int) > 48
 rw [if_pos c6] at H
 have c6b0 : decide (48 < (l2.length : Int)) = true := decide_eq_true c6
 have c6b1 : decide (48 < l2.length) = true := decide_eq_true (by omega)
 clear c6
 obtain rfl := Option.some.inj H
 rotate_left
 rw [if_neg c6] at H
 have c6b0 : decide (48 < (l2.length : Int)) = false := decide_eq_false c6
 have c6b1 : decide (48 < l2.length) = false := decide_eq_false (by omega)
 clear c6
 obtain rfl := Option.some.inj H
 rotate_left
 rw [if_neg c5] at H
 have c5b0 : (t542 == 0) = false := beq_eq_false_iff_ne.mpr c5
 have c5b1 : (t542 != 0) = true := bne_iff_ne.mpr c5
 obtain rfl := Option.some.inj H
 rotate_left
 all_goals
  go_enter Try.func27, Try.ntmps27
  go_wp2_with (first | ((with_reducible refine gd 4 rfl ?_); refine bx #[.int .i64 a1_0, .int .i64 a1_1, .int .i64 a1_2] 29 ?_; intro gb538 hg w7 BK538 hb; replace HO2 := asd (Kd.V_below (Kd.V_elderB (by (with_reducible repeat (first | apply Kd.V_alloc | apply Kd.V_drewN | apply Kd.V_drew)); exact HO2.out) gb538 (Nat.le_of_eq hg.symm)) hb); have GE538 := ngw0 hg HB; replace HB := bS0 HB hb; clear hb hg; obtain ⟨hcz8_0, hcz8_1, hcz8_2, hfz8_0, hfz8_1, hfz8_2⟩ := bz3 BK538) | ((with_reducible refine gd 11 rfl ?_); refine Kd.N_lit (Kd.slice 48 k48) _ 26 ?hg (N' := 11) ?hd (xs := ([l2] : List (List (S48)))) (inner := [.slice A2 l2.length c2]) (ok := (fun k_ => (P2_ k_ ∨ w.heap.size ≤ k_) ∧ k_ ≠ gb538)) (okp := (fun k_ => (P2_ k_ ∨ w.heap.size ≤ k_) ∧ k_ ≠ gb538)) ?hr ?hp (fun _ hk => hk) ((show ∀ k_, w7.heap.size ≤ k_ → (fun k_ => (P2_ k_ ∨ w.heap.size ≤ k_) ∧ k_ ≠ gb538) k_ from fun k_ hk => ⟨(.inr (Nat.le_trans (bsz1 HB GE538) hk)), Kd.freshB (g := gb538) (o := .cells #[.int .i64 a1_0, .int .i64 a1_1, .int .i64 a1_2] 29 (0, 0)) (bkp BK538) k_ hk⟩) _ (Nat.le_refl _)) (Below.refl _ _) (Nat.le_refl _) (by simp) ?_; (case hd => rfl); (case hg => rfl); (case hr => first | (go_simp; done) | (go_simp; rfl)); (case hp => exact (Reps.one (show Kd.FK (Kd.slice 48 k48) _ _ l2 [.slice A2 l2.length c2] from (Kd.FK_slice_mk (Kd.V_reads' (Kd.V_mono (ok' := (fun k_ => (P2_ k_ ∨ w.heap.size ≤ k_) ∧ k_ ≠ gb538)) (HO2.out) (fun k_ hk => ⟨hk.1, hk.2⟩))).2.1 (Kd.V_F (Kd.V_mono (ok' := (fun k_ => (P2_ k_ ∨ w.heap.size ≤ k_) ∧ k_ ≠ gb538)) (HO2.out) (fun k_ hk => ⟨hk.1, hk.2⟩))))) (Reps.none _ _))); intro v540 w9 ho10 hb hg_ hnew_; clear hg_ hnew_; (first | rw [← Ny539.out] at ho10 | (simp only [Int.reduceToNat] at ho10; rw [← Ny539.out] at ho10)); replace HO2 := asd (Kd.V_elder' (by (with_reducible repeat (first | apply Kd.V_alloc | apply Kd.V_drewN | apply Kd.V_drew)); exact HO2.out) (Kd.N_base ho10) hb); have HO541 := asd (Kd.N_lower ho10 (bsz1 HB GE538)); replace BK538 := bB BK538 hb; replace HB := bS1 HB GE538 hb; clear hb ho10; obtain ⟨Ao11, co11, eo11⟩ := Kd.N_slice HO541.out; subst eo11) | ((with_reducible refine gate_callee (f := 22) rfl ?_); refine gl 12 Try.func22 #[.int .i64 a0, .agg #[.int .i64 a1_0, .int .i64 a1_1, .int .i64 a1_2], .slice Ao11 y539.length co11] ?_; (with_reducible refine (impl_groupCode.calls _ _ _ _ _ _ _ _ _ _ ?side1 ?side2 A4.out).mono ?_); (case side1 => exact ks (Kd.N_reads' HO541.out).2.2); (case side2 => exact (Kd.N_reads' HO541.out).2.1); rintro e w12 ⟨rfl, hb⟩; refine ⟨_, rfl, ?_⟩; replace HO2 := asd (Kd.V_below (by (with_reducible repeat (first | apply Kd.V_alloc | apply Kd.V_drewN | apply Kd.V_drew)); exact HO2.out) hb); replace HO541 := asd (Kd.N_below (by (with_reducible repeat (first | apply Kd.N_alloc | apply Kd.N_drewN | apply Kd.N_drew)); exact HO541.out) hb); replace BK538 := bB BK538 hb; replace HB := bS1 HB GE538 hb; (try clear hb)))
  go_ret
  exact er (bbw1 HB GE538)
/-! ### impl_Lattice_compose: function 29 -/
def impl_Lattice_compose.f (a0_0 : Int) (a0_1 : Int) (a0_2 : Int) (a1_0 : Int) (a1_1 : Int) (a1_2 : Int) (a1_3 : Int) (a1_4 : Int) (a1_5 : Int) (a2_0 : Int) (a2_1 : Int) (a2_2 : Int) (a2_3 : Int) (a2_4 : Int) (a2_5 : Int) : Option (Int × Int × Int × Int × Int × Int) := (impl_Motion_times.f a1_0 a1_1 a1_2 a1_3 a1_4 a1_5 a2_0 a2_1 a2_2 a2_3 a2_4 a2_5).bind fun bt547 => ((impl_Lattice_reduceMotion.f a0_0 a0_1 a0_2 bt547.1 bt547.2.1 bt547.2.2.1 bt547.2.2.2.1 bt547.2.2.2.2.1 bt547.2.2.2.2.2).bind fun bt553 => (some (bt553.1, bt553.2.1, bt553.2.2.1, bt553.2.2.2.1, bt553.2.2.2.2.1, bt553.2.2.2.2.2)))
set_option maxHeartbeats 8000000 in
set_option maxRecDepth 100000 in
theorem impl_Lattice_compose.calls (a0_0 : Int) (a0_1 : Int) (a0_2 : Int) (a1_0 : Int) (a1_1 : Int) (a1_2 : Int) (a1_3 : Int) (a1_4 : Int) (a1_5 : Int) (a2_0 : Int) (a2_1 : Int) (a2_2 : Int) (a2_3 : Int) (a2_4 : Int) (a2_5 : Int) (r1 : Int) (r2 : Int) (r3 : Int) (r4 : Int) (r5 : Int) (r6 : Int) (w : World) (h : impl_Lattice_compose.f a0_0 a0_1 a0_2 a1_0 a1_1 a1_2 a1_3 a1_4 a1_5 a2_0 a2_1 a2_2 a2_3 a2_4 a2_5 = some (r1, r2, r3, r4, r5, r6)) :
  Calls Try.prog 29 #[.agg #[.int .i64 a0_0, .int .i64 a0_1, .int .i64 a0_2], .agg #[.int .i64 a1_0, .int .i64 a1_1, .int .i64 a1_2, .int .i64 a1_3, .int .i64 a1_4, .int .i64 a1_5], .agg #[.int .i64 a2_0, .int .i64 a2_1, .int .i64 a2_2, .int .i64 a2_3, .int .i64 a2_4, .int .i64 a2_5]] w fun e w' => e = .returned (.agg #[.int .i64 r1, .int .i64 r2, .int .i64 r3, .int .i64 r4, .int .i64 r5, .int .i64 r6]) ∧ Below w.heap.size w w' := by
 have hu29 := Try.underlying29
 have hu48 := Try.underlying48
 have HB := asd (Below.refl w.heap.size w)
 have H : ((impl_Motion_times.f a1_0 a1_1 a1_2 a1_3 a1_4 a1_5 a2_0 a2_1 a2_2 a2_3 a2_4 a2_5).bind fun bt547 => ((impl_Lattice_reduceMotion.f a0_0 a0_1 a0_2 bt547.1 bt547.2.1 bt547.2.2.1 bt547.2.2.2.1 bt547.2.2.2.2.1 bt547.2.2.2.2.2).bind fun bt553 => (some (bt553.1, bt553.2.1, bt553.2.2.1, bt553.2.2.2.1, bt553.2.2.2.2.1, bt553.2.2.2.2.2)))) = some (r1, r2, r3, r4, r5, r6) := h
 clear h
 obtain ⟨⟨t547, t548, t549, t550, t551, t552⟩, A4, H⟩ := ob H
 try dsimp only at H
 obtain ⟨⟨t553, t554, t555, t556, t557, t558⟩, A5, H⟩ := ob H
 try dsimp only at H
 simp only [Option.some.injEq, Prod.mk.injEq] at H
 obtain ⟨rfl, rfl, rfl, rfl, rfl, rfl⟩ := H
 go_enter Try.func29, Try.ntmps29
 try go_wp2_with (first | ((with_reducible refine gd 3 rfl ?_); refine bx #[.int .i64 a0_0, .int .i64 a0_1, .int .i64 a0_2] 29 ?_; intro gb543 hg w6 BK543 hb; have GE543 := ngw0 hg HB; replace HB := bS0 HB hb; clear hb hg) | ((with_reducible refine gd 4 rfl ?_); refine bx #[.int .i64 a1_0, .int .i64 a1_1, .int .i64 a1_2, .int .i64 a1_3, .int .i64 a1_4, .int .i64 a1_5] 48 ?_; intro gb544 hg w7 BK544 hb; have GE544 := ngw1 hg HB GE543; replace HB := bS1 HB GE543 hb; have NB543_544 := nlt hg BK543; have NB544_543 := nsy (nlt hg BK543); replace BK543 := bB BK543 hb; clear hb hg) | ((with_reducible refine gd 5 rfl ?_); refine bx #[.int .i64 a2_0, .int .i64 a2_1, .int .i64 a2_2, .int .i64 a2_3, .int .i64 a2_4, .int .i64 a2_5] 48 ?_; intro gb545 hg w8 BK545 hb; have GE545 := ngw2 hg HB GE543 GE544; replace HB := bS2 HB GE543 GE544 hb; have NB543_545 := nlt hg BK543; have NB545_543 := nsy (nlt hg BK543); replace BK543 := bB BK543 hb; have NB544_545 := nlt hg BK544; have NB545_544 := nsy (nlt hg BK544); replace BK544 := bB BK544 hb; clear hb hg) | ((with_reducible refine gd 6 rfl ?_); refine bx #[.int .i64 0, .int .i64 0, .int .i64 0, .int .i64 0, .int .i64 0, .int .i64 0] 48 ?_; intro gb546 hg w9 BK546 hb; have GE546 := ngw3 hg HB GE543 GE544 GE545; replace HB := bS3 HB GE543 GE544 GE545 hb; have NB543_546 := nlt hg BK543; have NB546_543 := nsy (nlt hg BK543); replace BK543 := bB BK543 hb; have NB544_546 := nlt hg BK544; have NB546_544 := nsy (nlt hg BK544); replace BK544 := bB BK544 hb; have NB545_546 := nlt hg BK545; have NB546_545 := nsy (nlt hg BK545); replace BK545 := bB BK545 hb; clear hb hg))
 replace BK543 := asd (blk_drew BK543.out)
 replace BK544 := asd (blk_drew BK544.out)
 replace BK545 := asd (blk_drew BK545.out)
 replace BK546 := asd (blk_drew BK546.out)
 replace HB := asd (below_drew1 HB.out)
 refine sh 6 (cb3 BK543 (cb6 BK544 (eb6 BK545))) (fun hHeld => ?_)
 generalize w9.drew = w10 at BK543 BK544 BK545 BK546 HB hHeld ⊢
 refine take_ (i := 0) (N := some 7) (v := ?_) (a' := ?_) (bT 6 1) rfl rfl (by kernel_rfl) (fun _ _ _ h => h) (Or.inl ⟨by rfl, ?_⟩) hHeld ?_ ?_
 rotate_left
 ·rintro w' ⟨s0, s1, s2, s3, s4, s5, s6, s7, s8, s9, s10, s11, s12, s13, s14⟩
  go_simp
  with_reducible rfl
 rotate_left
 ·simp only [Act.put, sA, sB, sC, i64_w, i32_w]
  rfl
 refine take_ (i := 1) (N := some 8) (v := ?_) (a' := ?_) (bT 6 2) rfl rfl (by kernel_rfl) (fun _ _ _ h => h) (Or.inl ⟨by rfl, ?_⟩) hHeld ?_ ?_
 rotate_left
 ·rintro w' ⟨s0, s1, s2, s3, s4, s5, s6, s7, s8, s9, s10, s11, s12, s13, s14⟩
  go_simp
  with_reducible rfl
 rotate_left
 ·simp only [Act.put, sA, sB, sC, i64_w, i32_w]
  rfl
 refine take_ (i := 2) (N := some 9) (v := ?_) (a' := ?_) (bT 6 3) rfl rfl (by kernel_rfl) (fun _ _ _ h => h) (Or.inl ⟨by rfl, ?_⟩) hHeld ?_ ?_
 rotate_left
 ·rintro w' ⟨s0, s1, s2, s3, s4, s5, s6, s7, s8, s9, s10, s11, s12, s13, s14⟩
  go_simp
  with_reducible rfl
 rotate_left
 ·simp only [Act.put, sA, sB, sC, i64_w, i32_w]
  rfl
 refine one_ (i := 3) (N := some 10) (bT 6 4) rfl rfl (by kernel_rfl) (by decide) (fun K hK => ?_)
 refine gs Try.func57 #[.agg #[.int .i64 a1_0, .int .i64 a1_1, .int .i64 a1_2, .int .i64 a1_3, .int .i64 a1_4, .int .i64 a1_5], .agg #[.int .i64 a2_0, .int .i64 a2_1, .int .i64 a2_2, .int .i64 a2_3, .int .i64 a2_4, .int .i64 a2_5]] ?_
 with_reducible refine (impl_Motion_times.calls _ _ _ _ _ _ _ _ _ _ _ _ _ _ _ _ _ _ _ A4.out).mono ?_
 rintro e w11 ⟨rfl, hb⟩
 refine ⟨_, rfl, ?_⟩
 replace BK543 := bB BK543 hb
 replace BK544 := bB BK544 hb
 replace BK545 := bB BK545 hb
 replace BK546 := bB BK546 hb
 replace HB := bS4 HB GE543 GE544 GE545 GE546 hb
 (try clear hb)
 (try clear hb2)
 (try clear hk)
 (try clear hi)
 refine hK.out _ _ (cb3 BK543 (cb6 BK544 (eb6 BK545))).out (fun hHeld => ?_)
 clear hK K
 refine norm_ (a' := ?_) ?_ ?_
 rotate_left
 ·show Act.put _ (some 10) _ = _
  simp only [Act.put, sA, sB, sC, i64_w, i32_w]
  rfl
 refine one_ (i := 4) (N := some 11) (bT 6 5) rfl rfl (by kernel_rfl) (by decide) (fun K hK => ?_)
 refine gs Try.func56 #[.agg #[.int .i64 a0_0, .int .i64 a0_1, .int .i64 a0_2], .agg #[.int .i64 t547, .int .i64 t548, .int .i64 t549, .int .i64 t550, .int .i64 t551, .int .i64 t552]] ?_
 with_reducible refine (impl_Lattice_reduceMotion.calls _ _ _ _ _ _ _ _ _ _ _ _ _ _ _ _ A5.out).mono ?_
 rintro e w12 ⟨rfl, hb⟩
 refine ⟨_, rfl, ?_⟩
 replace BK543 := bB BK543 hb
 replace BK544 := bB BK544 hb
 replace BK545 := bB BK545 hb
 replace BK546 := bB BK546 hb
 replace HB := bS4 HB GE543 GE544 GE545 GE546 hb
 (try clear hb)
 (try clear hb2)
 (try clear hk)
 (try clear hi)
 refine hK.out _ _ (cb3 BK543 (cb6 BK544 (eb6 BK545))).out (fun hHeld => ?_)
 clear hK K
 refine norm_ (a' := ?_) ?_ ?_
 rotate_left
 ·show Act.put _ (some 11) _ = _
  simp only [Act.put, sA, sB, sC, i64_w, i32_w]
  rfl
 refine one_ (i := 5) (N := none) (bT 6 6) rfl rfl (by kernel_rfl) (by decide) (fun K hK => ?_)
 have hs13 : w12.cell? ⟨gb546, 0, none⟩ = some (.int .i64 0) := bcl BK546 0
 have hfs13 := blk_frozen BK546.out 0
 have hns13_0 := NB543_546.out
 have hns13_1 := NB544_546.out
 have hns13_2 := NB545_546.out
 have hms13_0 := NB546_543.out
 have hms13_1 := NB546_544.out
 have hms13_2 := NB546_545.out
 have hs14 : w12.cell? ⟨gb546, 1, none⟩ = some (.int .i64 0) := bcl BK546 1
 have hfs14 := blk_frozen BK546.out 1
 have hns14_0 := NB543_546.out
 have hns14_1 := NB544_546.out
 have hns14_2 := NB545_546.out
 have hms14_0 := NB546_543.out
 have hms14_1 := NB546_544.out
 have hms14_2 := NB546_545.out
 have hs15 : w12.cell? ⟨gb546, 2, none⟩ = some (.int .i64 0) := bcl BK546 2
 have hfs15 := blk_frozen BK546.out 2
 have hns15_0 := NB543_546.out
 have hns15_1 := NB544_546.out
 have hns15_2 := NB545_546.out
 have hms15_0 := NB546_543.out
 have hms15_1 := NB546_544.out
 have hms15_2 := NB546_545.out
 have hs16 : w12.cell? ⟨gb546, 3, none⟩ = some (.int .i64 0) := bcl BK546 3
 have hfs16 := blk_frozen BK546.out 3
 have hns16_0 := NB543_546.out
 have hns16_1 := NB544_546.out
 have hns16_2 := NB545_546.out
 have hms16_0 := NB546_543.out
 have hms16_1 := NB546_544.out
 have hms16_2 := NB546_545.out
 have hs17 : w12.cell? ⟨gb546, 4, none⟩ = some (.int .i64 0) := bcl BK546 4
 have hfs17 := blk_frozen BK546.out 4
 have hns17_0 := NB543_546.out
 have hns17_1 := NB544_546.out
 have hns17_2 := NB545_546.out
 have hms17_0 := NB546_543.out
 have hms17_1 := NB546_544.out
 have hms17_2 := NB546_545.out
 have hs18 : w12.cell? ⟨gb546, 5, none⟩ = some (.int .i64 0) := bcl BK546 5
 have hfs18 := blk_frozen BK546.out 5
 have hns18_0 := NB543_546.out
 have hns18_1 := NB544_546.out
 have hns18_2 := NB545_546.out
 have hms18_0 := NB546_543.out
 have hms18_1 := NB546_544.out
 have hms18_2 := NB546_545.out
 refine skip_ (w1 := ?_) (by rfl) rfl ?_ ?_
 rotate_left
 ·go_simp
  rfl
 refine hK.out _ _ ⟨(cf6 NB543_546 (hHeld.1)), (cf6 NB543_546 (hHeld.2.1)), (cf6 NB543_546 (hHeld.2.2.1)), (cf6 NB544_546 (hHeld.2.2.2.1)), (cf6 NB544_546 (hHeld.2.2.2.2.1)), (cf6 NB544_546 (hHeld.2.2.2.2.2.1)), (cf6 NB544_546 (hHeld.2.2.2.2.2.2.1)), (cf6 NB544_546 (hHeld.2.2.2.2.2.2.2.1)), (cf6 NB544_546 (hHeld.2.2.2.2.2.2.2.2.1)), (cf6 NB545_546 (hHeld.2.2.2.2.2.2.2.2.2.1)), (cf6 NB545_546 (hHeld.2.2.2.2.2.2.2.2.2.2.1)), (cf6 NB545_546 (hHeld.2.2.2.2.2.2.2.2.2.2.2.1)), (cf6 NB545_546 (hHeld.2.2.2.2.2.2.2.2.2.2.2.2.1)), (cf6 NB545_546 (hHeld.2.2.2.2.2.2.2.2.2.2.2.2.2.1)), (cf6 NB545_546 (hHeld.2.2.2.2.2.2.2.2.2.2.2.2.2.2))⟩ (fun hHeld => ?_)
 clear hK K
 refine done_ (by kernel_rfl) ?_
 try go_wp2
 refine bodyPost_ret (results_cell_row rfl _ _ gb546 48 #[.int .i64 t553, .int .i64 t554, .int .i64 t555, .int .i64 t556, .int .i64 t557, .int .i64 t558] (0, 0) _ rfl (bq0 BK546) Try.underlying48 rfl (by kernel_rfl)) rfl ?_
 exact er (bbw4 HB GE543 GE544 GE545 GE546)
/-! ### impl_CommutingOf_differs: function 28 -/
def impl_CommutingOf_differs.f (a0_0 : Int) (a0_1 : Int) (a0_2 : Int) (a0_3 : Int) (a0_4 : Int) (a0_5 : Int) (a1_0 : Int) (a1_1 : Int) (a1_2 : Int) (a2_0 : Int) (a2_1 : Int) (a2_2 : Int) (a2_3 : Int) (a2_4 : Int) (a2_5 : Int) : Option (Bool) := (impl_Lattice_compose.f a1_0 a1_1 a1_2 a2_0 a2_1 a2_2 a2_3 a2_4 a2_5 a0_0 a0_1 a0_2 a0_3 a0_4 a0_5).bind fun bt562 => ((impl_Lattice_compose.f a1_0 a1_1 a1_2 a0_0 a0_1 a0_2 a0_3 a0_4 a0_5 a2_0 a2_1 a2_2 a2_3 a2_4 a2_5).bind fun bt568 => (some ((!(bt562.1 == bt568.1) || (!(bt562.2.1 == bt568.2.1) || (!(bt562.2.2.1 == bt568.2.2.1) || (!(bt562.2.2.2.1 == bt568.2.2.2.1))))) || ((!(bt562.2.2.2.2.1 == bt568.2.2.2.2.1) || (!(bt562.2.2.2.2.2 == bt568.2.2.2.2.2)))))))
def impl_CommutingOf_differs.T1 : Bool × List (List Nat × List Nat) := (true, [([], []), ([], []), ([], []), ([0, 1, 2], [0, 1, 2]), ([], []), ([], []), ([], []), ([4, 5, 6, 3], [4, 5, 6]), ([3, 7], [3, 7]), ([8, 7, 0, 1, 2, 3, 4, 5, 6, 7, 8], [8])])
def impl_CommutingOf_differs.B1 : List Nat := [0, 0, 0, 7, 0, 0, 0, 127, 255, 511]
theorem impl_CommutingOf_differs.tab1 : rtab .any (opsOf Try.f28 1) = impl_CommutingOf_differs.T1 := by kernel_rfl
theorem impl_CommutingOf_differs.bits1 : waitsOk impl_CommutingOf_differs.T1.2 impl_CommutingOf_differs.B1 = true := by kernel_rfl
set_option maxHeartbeats 8000000 in
set_option maxRecDepth 100000 in
theorem impl_CommutingOf_differs.calls (a0_0 : Int) (a0_1 : Int) (a0_2 : Int) (a0_3 : Int) (a0_4 : Int) (a0_5 : Int) (a1_0 : Int) (a1_1 : Int) (a1_2 : Int) (a2_0 : Int) (a2_1 : Int) (a2_2 : Int) (a2_3 : Int) (a2_4 : Int) (a2_5 : Int) (r : Bool) (gb559 gb560 : Nat) (w : World) (hL : w.heap[gb559]? = some (.cells #[.int .i64 a1_0, .int .i64 a1_1, .int .i64 a1_2] 29 (0, 0))) (hM : w.heap[gb560]? = some (.cells #[.int .i64 a2_0, .int .i64 a2_1, .int .i64 a2_2, .int .i64 a2_3, .int .i64 a2_4, .int .i64 a2_5] 48 (0, 0))) (hne : gb559 ≠ gb560) (h : impl_CommutingOf_differs.f a0_0 a0_1 a0_2 a0_3 a0_4 a0_5 a1_0 a1_1 a1_2 a2_0 a2_1 a2_2 a2_3 a2_4 a2_5 = some r) :
  Calls Try.prog 28 #[.agg #[.int .i64 a0_0, .int .i64 a0_1, .int .i64 a0_2, .int .i64 a0_3, .int .i64 a0_4, .int .i64 a0_5], .pointer (some ⟨gb559, 0, none⟩), .pointer (some ⟨gb560, 0, none⟩)] w fun e w' => e = .returned (.bool r) ∧ Below w.heap.size w w' := by
 have hu29 := Try.underlying29
 have hu48 := Try.underlying48
 have HB := asd (Below.refl w.heap.size w)
 have BK559 := Aside0.mk hL
 have BK560 := Aside0.mk hM
 have NB559_560 := Aside0.mk hne
 have NB560_559 := asd (Ne.symm hne)
 clear hL hM hne
 have H : ((impl_Lattice_compose.f a1_0 a1_1 a1_2 a2_0 a2_1 a2_2 a2_3 a2_4 a2_5 a0_0 a0_1 a0_2 a0_3 a0_4 a0_5).bind fun bt562 => ((impl_Lattice_compose.f a1_0 a1_1 a1_2 a0_0 a0_1 a0_2 a0_3 a0_4 a0_5 a2_0 a2_1 a2_2 a2_3 a2_4 a2_5).bind fun bt568 => (some ((!(bt562.1 == bt568.1) || (!(bt562.2.1 == bt568.2.1) || (!(bt562.2.2.1 == bt568.2.2.1) || (!(bt562.2.2.2.1 == bt568.2.2.2.1))))) || ((!(bt562.2.2.2.2.1 == bt568.2.2.2.2.1) || (!(bt562.2.2.2.2.2 == bt568.2.2.2.2.2)))))))) = some r := h
 clear h
 obtain ⟨⟨t562, t563, t564, t565, t566, t567⟩, A4, H⟩ := ob H
 try dsimp only at H
 obtain ⟨⟨t568, t569, t570, t571, t572, t573⟩, A5, H⟩ := ob H
 try dsimp only at H
 obtain rfl := Option.some.inj H
 go_enter Try.func28, Try.ntmps28
 try go_wp2_with (first | ((with_reducible refine gd 3 rfl ?_); refine bx #[.int .i64 a0_0, .int .i64 a0_1, .int .i64 a0_2, .int .i64 a0_3, .int .i64 a0_4, .int .i64 a0_5] 48 ?_; intro gb561 hg w8 BK561 hb; have GE561 := ngw0 hg HB; replace HB := bS0 HB hb; have NB559_561 := nlt hg BK559; have NB561_559 := nsy (nlt hg BK559); replace BK559 := bB BK559 hb; have NB560_561 := nlt hg BK560; have NB561_560 := nsy (nlt hg BK560); replace BK560 := bB BK560 hb; clear hb hg))
 replace BK559 := asd (blk_drew BK559.out)
 replace BK560 := asd (blk_drew BK560.out)
 replace BK561 := asd (blk_drew BK561.out)
 replace HB := asd (below_drew1 HB.out)
 refine sh 10 (cb3 BK559 (cb6 BK560 (eb6 BK561))) (fun hHeld => ?_); refine with_tabW impl_CommutingOf_differs.tab1 impl_CommutingOf_differs.bits1 (fun HT_ HW_ => ?_)
 generalize w8.drew = w9 at BK559 BK560 BK561 HB hHeld ⊢
 refine ta 0 (some 5) (bT 10 1) HT_ HW_ hHeld ?_
 refine ta 1 (some 6) (bT 10 2) HT_ HW_ hHeld ?_
 refine ta 2 (some 7) (bT 10 3) HT_ HW_ hHeld ?_
 refine ta 4 (some 9) (bs 10 23) HT_ HW_ hHeld ?_
 refine ta 5 (some 10) (bs 10 55) HT_ HW_ hHeld ?_
 refine ta 6 (some 11) (bs 10 119) HT_ HW_ hHeld ?_
 refine ro 3 (some 8) (bT 10 7) HT_ (fun K hK => ?_)
 refine gs Try.func29 #[.agg #[.int .i64 a1_0, .int .i64 a1_1, .int .i64 a1_2], .agg #[.int .i64 a2_0, .int .i64 a2_1, .int .i64 a2_2, .int .i64 a2_3, .int .i64 a2_4, .int .i64 a2_5], .agg #[.int .i64 a0_0, .int .i64 a0_1, .int .i64 a0_2, .int .i64 a0_3, .int .i64 a0_4, .int .i64 a0_5]] ?_
 with_reducible refine (impl_Lattice_compose.calls _ _ _ _ _ _ _ _ _ _ _ _ _ _ _ _ _ _ _ _ _ _ A4.out).mono ?_
 rintro e w10 ⟨rfl, hb⟩
 refine ⟨_, rfl, ?_⟩
 replace BK559 := bB BK559 hb
 replace BK560 := bB BK560 hb
 replace BK561 := bB BK561 hb
 replace HB := bS1 HB GE561 hb
 (try clear hb)
 (try clear hb2)
 (try clear hk)
 (try clear hi)
 refine hK.out _ _ (cb3 BK559 (cb6 BK560 (eb6 BK561))).out (fun hHeld => ?_)
 clear hK K
 refine norm_ (a' := ?_) ?_ ?_
 rotate_left
 ·show Act.put _ (some 8) _ = _
  simp only [Act.put, sA, sB, sC, i64_w, i32_w]
  rfl
 refine ro 7 (some 12) (bT 10 8) HT_ (fun K hK => ?_)
 refine gs Try.func29 #[.agg #[.int .i64 a1_0, .int .i64 a1_1, .int .i64 a1_2], .agg #[.int .i64 a0_0, .int .i64 a0_1, .int .i64 a0_2, .int .i64 a0_3, .int .i64 a0_4, .int .i64 a0_5], .agg #[.int .i64 a2_0, .int .i64 a2_1, .int .i64 a2_2, .int .i64 a2_3, .int .i64 a2_4, .int .i64 a2_5]] ?_
 with_reducible refine (impl_Lattice_compose.calls _ _ _ _ _ _ _ _ _ _ _ _ _ _ _ _ _ _ _ _ _ _ A5.out).mono ?_
 rintro e w11 ⟨rfl, hb⟩
 refine ⟨_, rfl, ?_⟩
 replace BK559 := bB BK559 hb
 replace BK560 := bB BK560 hb
 replace BK561 := bB BK561 hb
 replace HB := bS1 HB GE561 hb
 (try clear hb)
 (try clear hb2)
 (try clear hk)
 (try clear hi)
 refine hK.out _ _ (cb3 BK559 (cb6 BK560 (eb6 BK561))).out (fun hHeld => ?_)
 clear hK K
 refine norm_ (a' := ?_) ?_ ?_
 rotate_left
 ·show Act.put _ (some 12) _ = _
  simp only [Act.put, sA, sB, sC, i64_w, i32_w]
  rfl
 refine pu 8 (some 13) (bT 10 9) HT_ ?_
 refine pu 9 (some 4) (bT 10 10) HT_ ?_
 refine done_ (done_of HT_.out (by kernel_rfl)) ?_
 try go_wp2
 go_ret
 exact er (bbw1 HB GE561)
/-! ### impl_Motion_58: function 58 -/
/-- The first index at which p holds, or -1. -/
def impl_Motion_58.f (p : S48 → Bool) (l : List S48) : Int := match l.findIdx? p with | some i => i | none => -1
theorem impl_Motion_58.rd_get (l : List S48) (j : Nat) (h : j < l.length) : rd_T48 l (j : Int) = l[j] := by
 unfold rd_T48; rw [Int.toNat_natCast]; simp [List.getD, h]
theorem impl_Motion_58.rd_in (l : List S48) (x : Int) (h0 : 0 ≤ x) (h1 : x < (l.length : Int)) : rd_T48 l x ∈ l := by
 obtain ⟨k, rfl⟩ := Int.eq_ofNat_of_zero_le h0
 rw [impl_Motion_58.rd_get l k (by omega)]; exact List.getElem_mem _
theorem impl_Motion_58.hit (p : S48 → Bool) (l : List S48) (x : Int) (h0 : 0 ≤ x) (hx : x < l.length) (h : p (rd_T48 l x) = true) (hb : ∀ j : Nat, (j : Int) < x → p (rd_T48 l (j : Int)) = false) : impl_Motion_58.f p l = x := by
 obtain ⟨k, rfl⟩ := Int.eq_ofNat_of_zero_le h0
 have hk : k < l.length := by omega
 rw [impl_Motion_58.rd_get l k hk] at h
 unfold impl_Motion_58.f
 have : l.findIdx? p = some k := by
  rw [List.findIdx?_eq_some_iff_getElem]
  refine ⟨hk, h, fun j hj => ?_⟩
  have := hb j (by omega)
  rw [impl_Motion_58.rd_get l j (by omega)] at this
  simpa using this
 rw [this]
theorem impl_Motion_58.miss (p : S48 → Bool) (l : List S48) (hb : ∀ j : Nat, (j : Int) < l.length → p (rd_T48 l (j : Int)) = false) : impl_Motion_58.f p l = -1 := by
 unfold impl_Motion_58.f
 have : l.findIdx? p = none := by
  rw [List.findIdx?_eq_none_iff]
  intro x hx
  obtain ⟨j, hj, rfl⟩ := List.getElem_of_mem hx
  have := hb j (by omega)
  rw [impl_Motion_58.rd_get l j hj] at this
  exact this
 rw [this]
set_option maxHeartbeats 2000000 in
theorem impl_Motion_58.calls_some (p : S48 → Bool) (g : Nat) (lb : Array Value) (eg : ∀ args w, (callFunc g args).run Try.prog w = .ok (.enter g args) w) (ad : Addr) (c : Nat) (l : List S48) (w : World) (hr : Kd.C k48 w (some ad) l.length l)
  (hp : ∀ x ∈ l, ∀ (W : World), Below w.heap.size w W → Calls Try.prog g (#[.agg #[.int .i64 x.f0.f0, .int .i64 x.f0.f1, .int .i64 x.f0.f2, .int .i64 x.f0.f3, .int .i64 x.f1.f0, .int .i64 x.f1.f1]] ++ lb) W fun e w' => e = .returned (.bool (p x)) ∧ Below w.heap.size w w') :
  Calls Try.prog 58 #[.slice (some ad) l.length c, .func (.func g) #[] lb] w fun e w' => e = .returned (.int .i64 (impl_Motion_58.f p l)) ∧ Below w.heap.size w w' := by
 have hu33 := Try.underlying48
 have hu34 := Try.underlying44
 have hu35 := Try.underlying46
 have hbig := Kd.C_max hr
 have HR := Aside0.mk hr
 have HP := Aside0.mk hp
 clear hr hp
 have hbig' : l.length ≤ 9223372036854775807 := hbig
 have HBIG := Aside0.mk hbig'
 clear hbig hbig'
 go_enter Try.func58, Try.ntmps58
 go_wp2
 go_loopg [5, 8] l.length (fun gg _ s8 wr => ∃ x : Int, s8 = .int .i64 x ∧ Aside0 (0 ≤ x ∧ x ≤ l.length ∧ (l.length : Int) - x ≤ gg) ∧ Aside0 (Below w.heap.size w wr) ∧ Aside0 (∀ j : Nat, (j : Int) < x → p (rd_T48 l (j : Int)) = false))
 case atStart => exact ⟨0, rfl, ⟨by omega⟩, ⟨Below.refl _ w⟩, ⟨fun j hj => absurd hj (by omega)⟩⟩
 case round =>
  obtain ⟨x, rfl, HX, BW, AA⟩ := hrel
  by_cases c4 : x < (l.length : Int)
  ·have c4b0 : decide (x < (l.length : Int)) = true := decide_eq_true c4
   have c5b0 : decide (0 ≤ x) = true := decide_eq_true HX.out.1
   have hcall := HP.out (rd_T48 l x) (impl_Motion_58.rd_in l x HX.out.1 c4) wr BW.out
   obtain ⟨ad', e', hx0, hx1, hx2, hx3, hx4, hx5⟩ := at_T48 HR.out x HX.out.1 c4
   cases e'
   replace hx0 := (BW.out.cell (World.block_lt_of_cell? w _ hx0)).trans hx0
   replace hx1 := (BW.out.cell (World.block_lt_of_cell? w _ hx1)).trans hx1
   replace hx2 := (BW.out.cell (World.block_lt_of_cell? w _ hx2)).trans hx2
   replace hx3 := (BW.out.cell (World.block_lt_of_cell? w _ hx3)).trans hx3
   replace hx4 := (BW.out.cell (World.block_lt_of_cell? w _ hx4)).trans hx4
   replace hx5 := (BW.out.cell (World.block_lt_of_cell? w _ hx5)).trans hx5
   have C4 := Aside0.mk c4
   clear c4
   generalize hy : rd_T48 l x = y at hcall hx0 hx1 hx2 hx3 hx4 hx5
   have HY := Aside0.mk hy
   clear hy
   have p5 : 0 ≤ x := HX.out.1
   have p215 := eq_true p5
   have q215 : (x < (l.length : Int)) = True := eq_true C4.out
   clear p5
   cases hq : p y with
   | true =>
    rw [hq] at hcall
    have HQ := Aside0.mk hq
    clear hq
    go_wp2_with (go_at_fn g; refine hcall.mono ?_; rintro e w' ⟨rfl, hb'⟩)
    go_ret
    refine ⟨?_, hb'⟩
    rw [impl_Motion_58.hit p l x HX.out.1 C4.out (by rw [HY.out]; exact HQ.out) AA.out]
    rfl
   | false =>
    rw [hq] at hcall
    have HQ := Aside0.mk hq
    clear hq
    go_wp2_with (go_at_fn g; refine hcall.mono ?_; rintro e w' ⟨rfl, hb'⟩)
    have hw : wrap64 (x + 1) = x + 1 := by
     have h1 := HX.out; have h2 := HBIG.out; have h3 := C4.out
     unfold wrap64; omega
    go_roundg ((l.length : Int) - (x + 1)).toNat
    case measure => have h1 := HX.out; have h3 := C4.out; omega
    case rel =>
     refine ⟨wrap64 (x + 1), rfl, ⟨?_⟩, ⟨hb'⟩, ⟨fun j hj => ?_⟩⟩
     ·have h1 := HX.out; have h3 := C4.out; rw [hw]; omega
     ·rw [hw] at hj
      by_cases e : (j : Int) = x
      ·rw [e, HY.out]; exact HQ.out
      ·exact AA.out j (by omega)
  ·have c4b0 : decide (x < (l.length : Int)) = false := decide_eq_false c4
   have hxe : x = l.length := by have := HX.out; omega
   have C4 := Aside0.mk hxe
   clear c4 hxe
   go_wp2
   go_ret
   refine ⟨?_, BW.out⟩
   rw [impl_Motion_58.miss p l (by rw [← C4.out]; exact AA.out)]
   rfl
set_option maxHeartbeats 2000000 in
theorem impl_Motion_58.calls_empty (p : S48 → Bool) (A : Option Addr) (c : Nat) (fv : Value) (w : World) :
  Calls Try.prog 58 #[.slice A 0 c, fv] w fun e w' => e = .returned (.int .i64 (impl_Motion_58.f p [])) ∧ Below w.heap.size w w' := by
 go_enter Try.func58, Try.ntmps58
 go_wp2
 go_loopg [5, 8] 0 (fun _ _ s8 wr => s8 = .int .i64 0 ∧ wr = w)
 case atStart => exact ⟨rfl, rfl⟩
 case round =>
  obtain ⟨rfl, rfl⟩ := hrel
  go_wp2
  go_ret
  exact ⟨rfl, Below.refl _ _⟩
theorem impl_Motion_58.calls (p : S48 → Bool) (g : Nat) (lb : Array Value) (eg : ∀ args w, (callFunc g args).run Try.prog w = .ok (.enter g args) w) (A : Option Addr) (c : Nat) (l : List S48) (w : World) (hr : Kd.C k48 w A l.length l)
  (hp : ∀ x ∈ l, ∀ (W : World), Below w.heap.size w W → Calls Try.prog g (#[.agg #[.int .i64 x.f0.f0, .int .i64 x.f0.f1, .int .i64 x.f0.f2, .int .i64 x.f0.f3, .int .i64 x.f1.f0, .int .i64 x.f1.f1]] ++ lb) W fun e w' => e = .returned (.bool (p x)) ∧ Below w.heap.size w w') :
  Calls Try.prog 58 #[.slice A l.length c, .func (.func g) #[] lb] w fun e w' => e = .returned (.int .i64 (impl_Motion_58.f p l)) ∧ Below w.heap.size w w' := by
 cases l with
 | nil => exact impl_Motion_58.calls_empty p A c _ w
 | cons x xs =>
  obtain ⟨ad, rfl, _⟩ := hr.2.2 (by simp)
  exact impl_Motion_58.calls_some p g lb eg ad c (x :: xs) w hr hp
/-! ### impl_Motion_30: function 30 -/
theorem impl_Motion_30.any_of (p : S48 → Bool) (l : List S48) : decide (0 ≤ impl_Motion_58.f p l) = l.any p := by
 unfold impl_Motion_58.f
 cases h : l.findIdx? p with
 | none =>
  have : l.any p = false := by
   rw [List.any_eq_false]
   intro x hx
   simpa using List.findIdx?_eq_none_iff.1 h x hx
  rw [this]; rfl
 | some i =>
  have : l.any p = true := by
   obtain ⟨hi, hp, _⟩ := List.findIdx?_eq_some_iff_getElem.1 h
   exact List.any_eq_true.2 ⟨_, List.getElem_mem hi, hp⟩
  rw [this]; simp
set_option maxHeartbeats 1000000 in
theorem impl_Motion_30.calls (p : S48 → Bool) (g : Nat) (lb : Array Value) (eg : ∀ args w, (callFunc g args).run Try.prog w = .ok (.enter g args) w) (A : Option Addr) (c : Nat) (l : List S48) (w : World) (hr : Kd.C k48 w A l.length l)
  (hp : ∀ x ∈ l, ∀ (W : World), Below w.heap.size w W → Calls Try.prog g (#[.agg #[.int .i64 x.f0.f0, .int .i64 x.f0.f1, .int .i64 x.f0.f2, .int .i64 x.f0.f3, .int .i64 x.f1.f0, .int .i64 x.f1.f1]] ++ lb) W fun e w' => e = .returned (.bool (p x)) ∧ Below w.heap.size w w') :
  Calls Try.prog 30 #[.slice A l.length c, .func (.func g) #[] lb] w fun e w' => e = .returned (.bool (l.any p)) ∧ Below w.heap.size w w' := by
 have hcon := impl_Motion_58.calls p g lb eg A c l w hr hp
 rw [← impl_Motion_30.any_of p l]
 generalize impl_Motion_58.f p l = r at hcon
 clear hp hr
 go_enter Try.func30, Try.ntmps30
 go_wp2_with (go_at_call 58; refine hcon.mono ?_; rintro e w' ⟨rfl, hb'⟩)
 go_ret
 exact ⟨rfl, hb'⟩
/-! ### impl_CommutingOf: function 15 -/
def impl_CommutingOf.anyD (a b c : Int) (l : List S48) (m0 m1 m2 m3 m4 m5 : Int) : Option Bool := if (l.all fun x => (impl_CommutingOf_differs.f x.f0.f0 x.f0.f1 x.f0.f2 x.f0.f3 x.f1.f0 x.f1.f1 a b c m0 m1 m2 m3 m4 m5).isSome) = true then some (l.any fun x => (impl_CommutingOf_differs.f x.f0.f0 x.f0.f1 x.f0.f2 x.f0.f3 x.f1.f0 x.f1.f1 a b c m0 m1 m2 m3 m4 m5).getD false) else none
theorem impl_CommutingOf.anyD_calls (a b c : Int) (A : Option Addr) (cp : Nat) (l : List S48) (m0 m1 m2 m3 m4 m5 : Int) (r : Bool) (gL gM : Nat) (w : World) (hL : w.heap[gL]? = some (.cells #[.int .i64 a, .int .i64 b, .int .i64 c] 29 (0, 0))) (hM : w.heap[gM]? = some (.cells #[.int .i64 m0, .int .i64 m1, .int .i64 m2, .int .i64 m3, .int .i64 m4, .int .i64 m5] 48 (0, 0))) (hne : gL ≠ gM) (hr : Kd.C k48 w A l.length l) (h : impl_CommutingOf.anyD a b c l m0 m1 m2 m3 m4 m5 = some r) :
  Calls Try.prog 30 #[.slice A l.length cp, .func (.func 28) #[] #[.pointer (some ⟨gL, 0, none⟩), .pointer (some ⟨gM, 0, none⟩)]] w fun e w' => e = .returned (.bool r) ∧ Below w.heap.size w w' := by
 unfold impl_CommutingOf.anyD at h
 by_cases hs : (l.all fun x => (impl_CommutingOf_differs.f x.f0.f0 x.f0.f1 x.f0.f2 x.f0.f3 x.f1.f0 x.f1.f1 a b c m0 m1 m2 m3 m4 m5).isSome) = true
 ·rw [if_pos hs] at h
  obtain rfl := Option.some.inj h
  have eg : ∀ args w, (callFunc 28 args).run Try.prog w = .ok (.enter 28 args) w := enters_of Try.func28 (by kernel_rfl) rfl
  refine impl_Motion_30.calls (fun x => (impl_CommutingOf_differs.f x.f0.f0 x.f0.f1 x.f0.f2 x.f0.f3 x.f1.f0 x.f1.f1 a b c m0 m1 m2 m3 m4 m5).getD false) 28 #[.pointer (some ⟨gL, 0, none⟩), .pointer (some ⟨gM, 0, none⟩)] eg A cp l w hr (fun x hx W hW => ?_)
  obtain ⟨r, hr'⟩ := Option.isSome_iff_exists.1 (List.all_eq_true.1 hs x hx)
  show Calls Try.prog 28 #[.agg #[.int .i64 x.f0.f0, .int .i64 x.f0.f1, .int .i64 x.f0.f2, .int .i64 x.f0.f3, .int .i64 x.f1.f0, .int .i64 x.f1.f1], .pointer (some ⟨gL, 0, none⟩), .pointer (some ⟨gM, 0, none⟩)] W fun e w' => e = .returned (.bool ((impl_CommutingOf_differs.f x.f0.f0 x.f0.f1 x.f0.f2 x.f0.f3 x.f1.f0 x.f1.f1 a b c m0 m1 m2 m3 m4 m5).getD false)) ∧ Below w.heap.size w w'
  rw [hr', Option.getD_some]
  exact (impl_CommutingOf_differs.calls _ _ _ _ _ _ _ _ _ _ _ _ _ _ _ r gL gM W (blk_below hL hW) (blk_below hM hW) hne hr').mono fun e w' ⟨he, hb⟩ => ⟨he, below_then hW hW.size hb⟩
 ·rw [if_neg hs] at h; cases h
def impl_CommutingOf.l0 : Nat → Int → Int → Int → List (S48) → List (S48) → List (S48) → Int → Int → Option ((List (S48)) × Int)
 | 0, _, _, _, _, _, _, _, _ => none
 | k + 1, z1_0, z1_1, z1_2, x2, x9, x21, x22, x23 => if x23 < x22 then (if 0 ≤ x23 then (if x23 < (x21.length : Int) then ((impl_CommutingOf.anyD z1_0 z1_1 z1_2 x2 ((rd_T48 x21 x23).f0.f0) ((rd_T48 x21 x23).f0.f1) ((rd_T48 x21 x23).f0.f2) ((rd_T48 x21 x23).f0.f3) ((rd_T48 x21 x23).f1.f0) ((rd_T48 x21 x23).f1.f1)).bind fun t581 => (if t581 = true then (impl_CommutingOf.l0 k z1_0 z1_1 z1_2 x2 x9 x21 x22 (wrap64 (x23 + 1))) else (if x9.length < 2932031007402 then (impl_CommutingOf.l0 k z1_0 z1_1 z1_2 x2 (x9 ++ [(⟨(⟨(rd_T48 x21 x23).f0.f0, (rd_T48 x21 x23).f0.f1, (rd_T48 x21 x23).f0.f2, (rd_T48 x21 x23).f0.f3⟩ : S44), (⟨(rd_T48 x21 x23).f1.f0, (rd_T48 x21 x23).f1.f1⟩ : S46)⟩ : S48)]) x21 x22 (wrap64 (x23 + 1))) else (none)))) else (none)) else (none)) else (some (x9, 0))
def impl_CommutingOf.f (k : Nat) (a0 : Int) (a1_0 : Int) (a1_1 : Int) (a1_2 : Int) (l2 : List (S48)) : Option ((List (S48)) × Int) := (impl_smallCode.f k a0 a1_0 a1_1 a1_2 l2).bind fun t575 => (if t575 = 0 then (impl_CommutingOf.l0 k a1_0 a1_1 a1_2 l2 (([] : List (S48))) l2 (l2.length : Int) 0) else (some (([] : List (S48)), t575)))
set_option maxHeartbeats 8000000 in
set_option maxRecDepth 100000 in
theorem impl_CommutingOf.calls (k : Nat) (a0 : Int) (a1_0 : Int) (a1_1 : Int) (a1_2 : Int) (A2 : Option Addr) (c2 : Nat) (l2 : List (S48)) (r1 : List (S48)) (r2 : Int) (w : World) (hr2 : Kd.C k48 w A2 l2.length l2) (hc2 : l2.length ≤ c2) (h : impl_CommutingOf.f k a0 a1_0 a1_1 a1_2 l2 = some (r1, r2)) :
  Calls Try.prog 15 #[.int .i64 a0, .agg #[.int .i64 a1_0, .int .i64 a1_1, .int .i64 a1_2], .slice A2 l2.length c2] w fun e w' => ∃ v0_ : Value, e = .returned (.tuple #[v0_, .int .i64 r2]) ∧ Kd.R k48 48 w' w.heap.size (fun _ => True) v0_ r1 ∧ Below w.heap.size w w' := by
 have hu29 := Try.underlying29
 have hu48 := Try.underlying48
 have HR2 := Aside0.mk hr2
 have HC2 := Aside0.mk hc2
 clear hr2 hc2
 have HB := asd (Below.refl w.heap.size w)
 have H : ((impl_smallCode.f k a0 a1_0 a1_1 a1_2 l2).bind fun t575 => (if t575 = 0 then (impl_CommutingOf.l0 k a1_0 a1_1 a1_2 l2 (([] : List (S48))) l2 (l2.length : Int) 0) else (some (([] : List (S48)), t575)))) = some (r1, r2) := h
 clear h
 obtain ⟨t575, A4, H⟩ := ob H
 try dsimp only at H
 by_cases c5 : t575 = 0
 rw [if_pos c5] at H
 have c5b0 : (t575 == 0) = true := beq_iff_eq.mpr c5
 have c5b1 : (t575 != 0) = false := bne_eq_false_iff_eq.mpr c5
 clear c5
 obtain ⟨y576, hy576⟩ : ∃ y_ : List (S48), y_ = (([] : List (S48))) := ⟨_, rfl⟩
 replace H : (impl_CommutingOf.l0 k a1_0 a1_1 a1_2 l2 y576 l2 (l2.length : Int) 0) = some (r1, r2) := by first | (rw [hy576]; with_reducible exact H) | (have H2_ := (Option.bind_some _ _).symm.trans H; rw [hy576]; with_reducible exact H2_) | (have H2_ := (Option.bind_some _ _).symm.trans H; with_reducible exact H2_) | with_reducible exact H | (rw [hy576]; exact H) | exact H
 have Ny576 := Aside0.mk hy576
 clear hy576
 have H' := Aside0.mk H
 clear H
 rotate_left
 rw [if_neg c5] at H
 have c5b0 : (t575 == 0) = false := beq_eq_false_iff_ne.mpr c5
 have c5b1 : (t575 != 0) = true := bne_iff_ne.mpr c5
 rotate_left
 rotate_left
 simp only [Option.some.injEq, Prod.mk.injEq] at H
 obtain ⟨rfl, rfl⟩ := H
 rotate_left
 all_goals
  go_enter Try.func15, Try.ntmps15
  go_wp2_with (first | ((with_reducible refine gd 4 rfl ?_); refine bx #[.int .i64 a1_0, .int .i64 a1_1, .int .i64 a1_2] 29 ?_; intro gb574 hg w6 BK574 hb; have GE574 := ngw0 hg HB; replace HB := bS0 HB hb; clear hb hg; obtain ⟨hcz7_0, hcz7_1, hcz7_2, hfz7_0, hfz7_1, hfz7_2⟩ := bz3 BK574) | ((with_reducible refine gate_callee (f := 27) rfl ?_); refine gl 16 Try.func27 #[.int .i64 a0, .agg #[.int .i64 a1_0, .int .i64 a1_1, .int .i64 a1_2], .slice A2 l2.length c2] ?_; (with_reducible refine (impl_smallCode.calls _ _ _ _ _ (fun k_ => k_ < w.heap.size) _ _ _ _ _ ?side1 A4.out).mono ?_); (case side1 => exact Kd.V_mk HC2.out (Kd.F_below (Kd.C_F k48_heap HR2.out) (bbw1 HB GE574))); rintro e w8 ⟨rfl, hb⟩; refine ⟨_, rfl, ?_⟩; replace BK574 := bB BK574 hb; replace HB := bS1 HB GE574 hb; (try clear hb)) | ((with_reducible refine gd 20 rfl ?_); refine Kd.R_lit k48 _ 48 ?hg (N := 20) ?hd (xs := ([] : List (S48))) (inner := []) (ok := fun _ => True) (okp := fun _ => True) ?hr ?hp (fun _ hk => hk) trivial (Below.refl _ _) (Nat.le_refl _) (by simp) ?_; (case hd => rfl); (case hg => rfl); (case hr => first | (go_simp; done) | (go_simp; rfl)); (case hp => exact (Reps.none _ _)); intro v577 w9 ho10 hb hg_ hnew_; clear hg_ hnew_; (first | rw [← Ny576.out] at ho10 | (simp only [Int.reduceToNat] at ho10; rw [← Ny576.out] at ho10)); have HO578 := asd (Kd.R_lower ho10 (bsz1 HB GE574)); replace BK574 := bB BK574 hb; replace HB := bS1 HB GE574 hb; clear hb ho10))
 ·go_loopg [9, 23] k (fun kq v9 v23 w' => ∃ (x9_1 : List (S48)) (x23_1 : Int), v23 = .int .i64 x23_1 ∧ Aside0 (impl_CommutingOf.l0 kq a1_0 a1_1 a1_2 l2 x9_1 l2 (l2.length : Int) x23_1 = some (r1, r2)) ∧ Aside0 (kq ≤ k) ∧ Aside0 (Kd.R k48 48 w' w.heap.size (fun _ => True) v9 x9_1) ∧ Aside0 (w'.heap[gb574]? = some (.cells #[.int .i64 a1_0, .int .i64 a1_1, .int .i64 a1_2] 29 (0, 0))) ∧ Aside0 (Below w.heap.size w w'))
  case atStart => exact ⟨(y576), (0), (by first | rfl | (simp; done) | (simp [*]; done)), H', ⟨Nat.le_refl _⟩, ⟨by (with_reducible repeat (first | apply Kd.R_alloc | apply Kd.R_drewN | apply Kd.R_drew)); exact HO578.out⟩, ⟨bkp BK574⟩, ⟨bbw1 HB GE574⟩⟩
  case round =>
   clear H'
   try clear c1
   try clear c2
   try clear p2
   try clear c5
   try clear c5b0
   try clear c5b1
   try clear hcz7_0
   try clear hcz7_1
   try clear hcz7_2
   try clear hfz7_0
   try clear hfz7_1
   try clear hfz7_2
   obtain ⟨x9_1, x23_1, rfl, HA, HK1, HO_9, BK574, HB⟩ := hrel
   cases gk with
   | zero => exact absurd HA.out (by simp [impl_CommutingOf.l0])
   | succ k1 =>
    have H := HA.out
    clear HA
    simp only [impl_CommutingOf.l0] at H
    by_cases c11 : x23_1 < (l2.length : Int)
    rw [if_pos c11] at H
    have c11b0 := decide_eq_true c11
    clear c11
    by_cases c12 : 0 ≤ x23_1
    rw [if_pos c12] at H
    have c12b0 := decide_eq_true c12
    clear c12
    by_cases c13 : x23_1 < (l2.length : Int)
    rw [if_pos c13] at H
    have c13b0 := decide_eq_true c13
    clear c13
    obtain ⟨t581, A14, H⟩ := ob H
    try dsimp only at H
    by_cases c15 : t581 = true
    subst c15
    replace H := ifT H
    have H' := Aside0.mk H
    clear H
    rotate_left
    replace c15 := Bool.eq_false_iff.mpr c15
    subst c15
    replace H := ifF H
    by_cases c21 : x9_1.length < 2932031007402
    rw [if_pos c21] at H
    have LMc21 := Aside0.mk c21
    clear c21
    obtain ⟨y582, hy582⟩ : ∃ y_ : List (S48), y_ = (x9_1 ++ [(⟨(⟨(rd_T48 l2 x23_1).f0.f0, (rd_T48 l2 x23_1).f0.f1, (rd_T48 l2 x23_1).f0.f2, (rd_T48 l2 x23_1).f0.f3⟩ : S44), (⟨(rd_T48 l2 x23_1).f1.f0, (rd_T48 l2 x23_1).f1.f1⟩ : S46)⟩ : S48)]) := ⟨_, rfl⟩
    replace H : (impl_CommutingOf.l0 k1 a1_0 a1_1 a1_2 l2 y582 l2 (l2.length : Int) (wrap64 (x23_1 + 1))) = some (r1, r2) := by first | (rw [hy582]; with_reducible exact H) | (have H2_ := (Option.bind_some _ _).symm.trans H; rw [hy582]; with_reducible exact H2_) | (have H2_ := (Option.bind_some _ _).symm.trans H; with_reducible exact H2_) | with_reducible exact H | (rw [hy582]; exact H) | exact H
    have Ny582 := Aside0.mk hy582
    clear hy582
    have H' := Aside0.mk H
    clear H
    rotate_left
    ·rw [if_neg c21] at H
     exact absurd H (by simp)
    ·rw [if_neg c13] at H
     exact absurd H (by simp)
    ·rw [if_neg c12] at H
     exact absurd H (by simp)
    rw [if_neg c11] at H
    have c11b0 := decide_eq_false c11
    clear c11
    rotate_left
    rotate_left 2
    ·simp only [Option.some.injEq, Prod.mk.injEq] at H
     obtain ⟨rfl, rfl⟩ := H
     go_wp2
     go_ret2
     exact ⟨_, by first | rfl | (simp [errW_none, errW_some] <;> rfl) | (simp [*, errW_none, errW_some] <;> rfl), by (with_reducible repeat (first | apply Kd.R_alloc | apply Kd.R_drewN | apply Kd.R_drew)); exact HO_9.out, bbw1 HB GE574⟩
    all_goals
     obtain ⟨p579, q579, ad579, e579, hx579_0, hx579_1, hx579_2, hx579_3, hx579_4, hx579_5⟩ := at_T48x HR2.out HB x23_1
     cases e579
    ·go_wp2_with (first | ((with_reducible refine gd 11 rfl ?_); refine bx #[.int .i64 0, .int .i64 0, .int .i64 0, .int .i64 0, .int .i64 0, .int .i64 0] 48 ?_; intro gb580 hg w16 BK580 hb; replace HO_9 := asd (Kd.R_below (Kd.R_elderB (kr HO_9) gb580 (Nat.le_of_eq hg.symm)) hb); have GE580 := ngw1 hg HB GE574; replace HB := bS1 HB GE574 hb; have NB574_580 := nlt hg BK574; have NB580_574 := nsy (nlt hg BK574); replace BK574 := bB BK574 hb; clear hb hg; have hnb17 := NB580_574.out; have hnc17 := NB574_580.out; obtain ⟨hcz18_0, hcz18_1, hcz18_2, hcz18_3, hcz18_4, hcz18_5, hfz18_0, hfz18_1, hfz18_2, hfz18_3, hfz18_4, hfz18_5⟩ := bz6 BK580; obtain ⟨hcz19_0, hcz19_1, hcz19_2, hfz19_0, hfz19_1, hfz19_2⟩ := bz3 BK574) | ((with_reducible refine gate_callee (f := 30) rfl ?_); refine gl 30 Try.func30 #[.slice (some ad579) l2.length c2, .func (.func 28) #[] #[.pointer (some ⟨gb574, 0, none⟩), .pointer (some ⟨gb580, 0, none⟩)]] ?_; (refine (impl_CommutingOf.anyD_calls _ _ _ _ _ _ _ _ _ _ _ _ _ gb574 gb580 _ ?sideL ?sideM NB574_580.out ?side1 A14.out).mono ?_); (case sideL => exact (bq1 BK574 NB574_580)); (case sideM => exact (bq0 BK580)); (case side1 => exact Kd.C_below HR2.out (bbw2 HB GE574 GE580)); rintro e w20 ⟨rfl, hb⟩; refine ⟨_, rfl, ?_⟩; replace HO_9 := asd (Kd.R_below (by (with_reducible repeat (first | apply Kd.R_alloc | apply Kd.R_drewN | apply Kd.R_drew)); exact (Kd.R_mono (rw6 (Kd.R_mono HO_9.out (fun k_ hk => (⟨hk, hk.2⟩ : _ ∧ k_ ≠ gb580)))) (fun _ h_ => h_.1))) hb); replace BK574 := asd (blk_below (g := gb574) (o := .cells #[.int .i64 a1_0, .int .i64 a1_1, .int .i64 a1_2] 29 (0, 0)) (bq1 BK574 NB574_580) hb); replace BK580 := asd (blk_below (g := gb580) (o := .cells #[.int .i64 ((rd_T48 l2 x23_1).f0.f0), .int .i64 ((rd_T48 l2 x23_1).f0.f1), .int .i64 ((rd_T48 l2 x23_1).f0.f2), .int .i64 ((rd_T48 l2 x23_1).f0.f3), .int .i64 ((rd_T48 l2 x23_1).f1.f0), .int .i64 ((rd_T48 l2 x23_1).f1.f1)] 48 (0, 0)) (bq0 BK580) hb); replace HB := bS2 HB GE574 GE580 hb; (try clear hb)))
     go_roundg k1
     case measure => have := HK1.out; omega
     case rel => exact ⟨(x9_1), (wrap64 (x23_1 + 1)), (by first | rfl | (simp; done) | (simp [*]; done)), H', ⟨by have := HK1.out; omega⟩, ⟨by (with_reducible repeat (first | apply Kd.R_alloc | apply Kd.R_drewN | apply Kd.R_drew)); exact Kd.R_mono HO_9.out (fun _ hk => trivial)⟩, ⟨bkp BK574⟩, ⟨bbw2 HB GE574 GE580⟩⟩
    ·go_wp2_with (first | ((with_reducible refine gd 11 rfl ?_); refine bx #[.int .i64 0, .int .i64 0, .int .i64 0, .int .i64 0, .int .i64 0, .int .i64 0] 48 ?_; intro gb580 hg w22 BK580 hb; replace HO_9 := asd (Kd.R_below (Kd.R_elderB (kr HO_9) gb580 (Nat.le_of_eq hg.symm)) hb); have GE580 := ngw1 hg HB GE574; replace HB := bS1 HB GE574 hb; have NB574_580 := nlt hg BK574; have NB580_574 := nsy (nlt hg BK574); replace BK574 := bB BK574 hb; clear hb hg; have hnb23 := NB580_574.out; have hnc23 := NB574_580.out; obtain ⟨hcz24_0, hcz24_1, hcz24_2, hcz24_3, hcz24_4, hcz24_5, hfz24_0, hfz24_1, hfz24_2, hfz24_3, hfz24_4, hfz24_5⟩ := bz6 BK580; obtain ⟨hcz25_0, hcz25_1, hcz25_2, hfz25_0, hfz25_1, hfz25_2⟩ := bz3 BK574) | ((with_reducible refine gate_callee (f := 30) rfl ?_); refine gl 30 Try.func30 #[.slice (some ad579) l2.length c2, .func (.func 28) #[] #[.pointer (some ⟨gb574, 0, none⟩), .pointer (some ⟨gb580, 0, none⟩)]] ?_; (refine (impl_CommutingOf.anyD_calls _ _ _ _ _ _ _ _ _ _ _ _ _ gb574 gb580 _ ?sideL ?sideM NB574_580.out ?side1 A14.out).mono ?_); (case sideL => exact (bq1 BK574 NB574_580)); (case sideM => exact (bq0 BK580)); (case side1 => exact Kd.C_below HR2.out (bbw2 HB GE574 GE580)); rintro e w26 ⟨rfl, hb⟩; refine ⟨_, rfl, ?_⟩; replace HO_9 := asd (Kd.R_below (by (with_reducible repeat (first | apply Kd.R_alloc | apply Kd.R_drewN | apply Kd.R_drew)); exact (Kd.R_mono (rw6 (Kd.R_mono HO_9.out (fun k_ hk => (⟨hk, hk.2⟩ : _ ∧ k_ ≠ gb580)))) (fun _ h_ => h_.1))) hb); replace BK574 := asd (blk_below (g := gb574) (o := .cells #[.int .i64 a1_0, .int .i64 a1_1, .int .i64 a1_2] 29 (0, 0)) (bq1 BK574 NB574_580) hb); replace BK580 := asd (blk_below (g := gb580) (o := .cells #[.int .i64 ((rd_T48 l2 x23_1).f0.f0), .int .i64 ((rd_T48 l2 x23_1).f0.f1), .int .i64 ((rd_T48 l2 x23_1).f0.f2), .int .i64 ((rd_T48 l2 x23_1).f0.f3), .int .i64 ((rd_T48 l2 x23_1).f1.f0), .int .i64 ((rd_T48 l2 x23_1).f1.f1)] 48 (0, 0)) (bq0 BK580) hb); replace HB := bS2 HB GE574 GE580 hb; (try clear hb); obtain ⟨hcz27_0, hcz27_1, hcz27_2, hcz27_3, hcz27_4, hcz27_5, hfz27_0, hfz27_1, hfz27_2, hfz27_3, hfz27_4, hfz27_5⟩ := bz6 BK580) | ((with_reducible refine gate_builtin (b := .append) (xs := #[.tmp 32, .tmp 34]) rfl ?_); at_builtin; refine Kd.R_append k48 (w0 := w) w.heap.size rfl (.tmp 32) (.tmp 34) 26 48 (.agg #[(.int .i64 0), (.int .i64 0), (.int .i64 0), (.int .i64 0), (.int .i64 0), (.int .i64 0)]) 48 rfl Try.underlying26 info48 rfl (by decide) (by omega) u9 x9_1 (⟨(⟨(rd_T48 l2 x23_1).f0.f0, (rd_T48 l2 x23_1).f0.f1, (rd_T48 l2 x23_1).f0.f2, (rd_T48 l2 x23_1).f0.f3⟩ : S44), (⟨(rd_T48 l2 x23_1).f1.f0, (rd_T48 l2 x23_1).f1.f1⟩ : S46)⟩ : S48) [.int .i64 ((rd_T48 l2 x23_1).f0.f0), .int .i64 ((rd_T48 l2 x23_1).f0.f1), .int .i64 ((rd_T48 l2 x23_1).f0.f2), .int .i64 ((rd_T48 l2 x23_1).f0.f3), .int .i64 ((rd_T48 l2 x23_1).f1.f0), .int .i64 ((rd_T48 l2 x23_1).f1.f1)] (fun k_ => k_ ≠ gb580) (fun _ => False) rfl rfl ?aP (fun _ hk => hk.elim) ?aF ?aO ?aB ?aS ?aL ?_; (case aP => exact k48_mkM _ _ _ (⟨(⟨(rd_T48 l2 x23_1).f0.f0, (rd_T48 l2 x23_1).f0.f1, (rd_T48 l2 x23_1).f0.f2, (rd_T48 l2 x23_1).f0.f3⟩ : S44), (⟨(rd_T48 l2 x23_1).f1.f0, (rd_T48 l2 x23_1).f1.f1⟩ : S46)⟩ : S48)); (case aB => exact (bbw2 HB GE574 GE580)); (case aF => exact (fun k_ hk => Kd.freshB (g := gb580) (o := .cells #[.int .i64 ((rd_T48 l2 x23_1).f0.f0), .int .i64 ((rd_T48 l2 x23_1).f0.f1), .int .i64 ((rd_T48 l2 x23_1).f0.f2), .int .i64 ((rd_T48 l2 x23_1).f0.f3), .int .i64 ((rd_T48 l2 x23_1).f1.f0), .int .i64 ((rd_T48 l2 x23_1).f1.f1)] 48 (0, 0)) (bkp BK580) k_ hk)); (case aO => exact (by (with_reducible repeat (first | apply Kd.R_alloc | apply Kd.R_drewN | apply Kd.R_drew)); exact Kd.R_mono HO_9.out (fun _ hk => hk.2))); (case aS => exact (bsz2 HB GE574 GE580)); (case aL => have := LMc21.out; omega); intro v583 w28 ho hb hg hat; rw [← Ny582.out] at ho; have n0_ := asd (blk_grown (g := gb574) (o := .cells #[.int .i64 a1_0, .int .i64 a1_1, .int .i64 a1_2] 29 (0, 0)) (bkp BK574) hg (Kd.R_ne HO_9.out BK574.out (by decide))); have n1_ := asd (blk_grown (g := gb580) (o := .cells #[.int .i64 ((rd_T48 l2 x23_1).f0.f0), .int .i64 ((rd_T48 l2 x23_1).f0.f1), .int .i64 ((rd_T48 l2 x23_1).f0.f2), .int .i64 ((rd_T48 l2 x23_1).f0.f3), .int .i64 ((rd_T48 l2 x23_1).f1.f0), .int .i64 ((rd_T48 l2 x23_1).f1.f1)] 48 (0, 0)) (bkp BK580) hg (Kd.R_away HO_9.out (fun _ hk => hk.2))); have n2_ := asd (hb); have n3_ := asd (ho); clear BK574; clear BK580; clear HB; clear HO_9; have BK574 := n0_; have BK580 := n1_; have HB := n2_; have HO584 := n3_; clear n0_ n1_ n2_ n3_; clear ho hb hg hat))
     go_roundg k1
     case measure => have := HK1.out; omega
     case rel => exact ⟨(y582), (wrap64 (x23_1 + 1)), (by first | rfl | (simp; done) | (simp [*]; done)), H', ⟨by have := HK1.out; omega⟩, ⟨by (with_reducible repeat (first | apply Kd.R_alloc | apply Kd.R_drewN | apply Kd.R_drew)); exact Kd.R_mono HO584.out (fun _ hk => trivial)⟩, ⟨bkp BK574⟩, ⟨bbw2 HB GE574 GE580⟩⟩
 ·go_ret2
  exact ⟨_, by first | rfl | (simp [errW_none, errW_some] <;> rfl) | (simp [*, errW_none, errW_some] <;> rfl), by first | exact Kd.R_nil _ _ _ _ _ | exact Kd.N_nil _ _ _ _ _ | exact Kd.V_nil _ _ _ _ _ | exact Kd.Q_nil _ _ _ _ _ | exact Kd.S_nil _ _ _ _ _, bbw1 HB GE574⟩

end Go.Proofs.Ytilbokbfcmeleaa.PA
