/- Walks written by program: each Go function that the law reaches comes to the plain function beside it. -/
import Derived.Test.YtcchmdodifkloaaPAx0
import Derived.Test.YtcchmdodifkloaaPAx4
import Derived.Test.YtcchmdodifkloaaPAx5
import Derived.Test.YtcchmdodifkloaaPAx8
import Derived.Test.YtcchmdodifkloaaPAx9
import Derived.Test.YtcchmdodifkloaaPAx11
import Derived.Test.YtcchmdodifkloaaPAx15
namespace Go.Proofs.Ytcchmdodifkloaa.PA
open Go.RowKit Go.Proofs.YtcchmdodifkloaaW.PrintWords Go.Proofs.YtcchmdodifkloaaW.PrintLast Go.Proofs.YtcchmdodifkloaaW.PrintMore
attribute [local go_sem] max2_int min2_int max_two min_two max_three min_three max_four min_four   -- for this text's walks alone
set_option linter.unusedVariables false
set_option linter.unusedSimpArgs false

/-! ### spec_IsSubgroup: function 9 -/
def spec_IsSubgroup.f (k : Nat) (a0 : Int) (a1_0 : Int) (a1_1 : Int) (a1_2 : Int) (l2 : List (S55)) (l3 : List (S55)) : Option (Bool) := (spec_IsGroup.f k a0 a1_0 a1_1 a1_2 l2).bind fun t281 => (if t281 = true then ((spec_IsGroup.f k a0 a1_0 a1_1 a1_2 l3).bind fun t282 => (if t282 = true then ((spec_l15Inside.f k l2 l3).bind fun t283 => (some t283)) else (some false))) else (some false))
set_option maxHeartbeats 8000000 in
set_option maxRecDepth 100000 in
theorem spec_IsSubgroup.calls (k : Nat) (a0 : Int) (a1_0 : Int) (a1_1 : Int) (a1_2 : Int) (A2 : Option Addr) (c2 : Nat) (l2 : List (S55)) (A3 : Option Addr) (c3 : Nat) (l3 : List (S55)) (r : Bool) (w : World) (hr2 : Kd.C k55 w A2 l2.length l2) (hc2 : l2.length ≤ c2) (hr3 : Kd.C k55 w A3 l3.length l3) (hc3 : l3.length ≤ c3) (h : spec_IsSubgroup.f k a0 a1_0 a1_1 a1_2 l2 l3 = some r) :
  Calls Try.prog 9 #[.int .i64 a0, .agg #[.int .i64 a1_0, .int .i64 a1_1, .int .i64 a1_2], .slice A2 l2.length c2, .slice A3 l3.length c3] w fun e w' => e = .returned (.bool r) ∧ Below w.heap.size w w' := by
 have hu27 := Try.underlying27
 have HR2 := Aside0.mk hr2
 have HC2 := Aside0.mk hc2
 clear hr2 hc2
 have HR3 := Aside0.mk hr3
 have HC3 := Aside0.mk hc3
 clear hr3 hc3
 have HB := asd (Below.refl w.heap.size w)
 have H : ((spec_IsGroup.f k a0 a1_0 a1_1 a1_2 l2).bind fun t281 => (if t281 = true then ((spec_IsGroup.f k a0 a1_0 a1_1 a1_2 l3).bind fun t282 => (if t282 = true then ((spec_l15Inside.f k l2 l3).bind fun t283 => (some t283)) else (some false))) else (some false))) = some r := h
 clear h
 obtain ⟨t281, A5, H⟩ := ob H
 try dsimp only at H
 by_cases c6 : t281 = true
 subst c6
 replace H := ifT H
 obtain ⟨t282, A7, H⟩ := ob H
 try dsimp only at H
 by_cases c8 : t282 = true
 subst c8
 replace H := ifT H
 obtain ⟨t283, A9, H⟩ := ob H
 try dsimp only at H
 obtain rfl := Option.some.inj H
 rotate_left
 replace c8 := Bool.eq_false_iff.mpr c8
 subst c8
 replace H := ifF H
 obtain rfl := Option.some.inj H
 rotate_left
 replace c6 := Bool.eq_false_iff.mpr c6
 subst c6
 replace H := ifF H
 obtain rfl := Option.some.inj H
 rotate_left
 all_goals
  go_enter Try.func9, Try.ntmps9
 rotate_left 2
 ·go_wp2_with (first | ((with_reducible refine gd 5 rfl ?_); refine bx #[.int .i64 a1_0, .int .i64 a1_1, .int .i64 a1_2] 27 ?_; intro gb280 hg w21 BK280 hb; have GE280 := ngw0 hg HB; replace HB := bS0 HB hb; clear hb hg; obtain ⟨hcz22_0, hcz22_1, hcz22_2, hfz22_0, hfz22_1, hfz22_2⟩ := bz3 BK280) | ((with_reducible refine gate_callee (f := 29) rfl ?_); refine gl 12 Try.func29 #[.int .i64 a0, .agg #[.int .i64 a1_0, .int .i64 a1_1, .int .i64 a1_2], .slice A2 l2.length c2] ?_; (with_reducible refine (spec_IsGroup.calls _ _ _ _ _ _ _ _ _ _ ?side1 ?side2 A5.out).mono ?_); (case side1 => exact ks (Kd.C_below HR2.out HB.out)); (case side2 => exact HC2.out); rintro e w23 ⟨rfl, hb⟩; refine ⟨_, rfl, ?_⟩; replace BK280 := bB BK280 hb; replace HB := bS1 HB GE280 hb; (try clear hb)))
  go_ret
  exact er (bbw1 HB GE280)
 all_goals
  go_wp2_with (first | ((with_reducible refine gd 5 rfl ?_); refine bx #[.int .i64 a1_0, .int .i64 a1_1, .int .i64 a1_2] 27 ?_; intro gb280 hg w10 BK280 hb; have GE280 := ngw0 hg HB; replace HB := bS0 HB hb; clear hb hg; obtain ⟨hcz11_0, hcz11_1, hcz11_2, hfz11_0, hfz11_1, hfz11_2⟩ := bz3 BK280) | ((with_reducible refine gate_callee (f := 29) rfl ?_); refine gl 12 Try.func29 #[.int .i64 a0, .agg #[.int .i64 a1_0, .int .i64 a1_1, .int .i64 a1_2], .slice A2 l2.length c2] ?_; (with_reducible refine (spec_IsGroup.calls _ _ _ _ _ _ _ _ _ _ ?side1 ?side2 A5.out).mono ?_); (case side1 => exact ks (Kd.C_below HR2.out HB.out)); (case side2 => exact HC2.out); rintro e w12 ⟨rfl, hb⟩; refine ⟨_, rfl, ?_⟩; replace BK280 := bB BK280 hb; replace HB := bS1 HB GE280 hb; (try clear hb); obtain ⟨hcz13_0, hcz13_1, hcz13_2, hfz13_0, hfz13_1, hfz13_2⟩ := bz3 BK280) | (go_at_call 29; (with_reducible refine (spec_IsGroup.calls _ _ _ _ _ _ _ _ _ _ ?side1 ?side2 A7.out).mono ?_); (case side1 => exact ks (Kd.C_below HR3.out HB.out)); (case side2 => exact HC3.out); rintro e w14 ⟨rfl, hb⟩; replace BK280 := bB BK280 hb; replace HB := bS1 HB GE280 hb; (try clear hb)) | (go_at_call 30; (with_reducible refine (spec_l15Inside.calls _ _ _ _ _ _ _ _ _ ?side1 ?side2 ?side3 ?side4 A9.out).mono ?_); (case side1 => exact ks (Kd.C_below HR2.out HB.out)); (case side2 => exact HC2.out); (case side3 => exact ks (Kd.C_below HR3.out HB.out)); (case side4 => exact HC3.out); rintro e w15 ⟨rfl, hb⟩; replace BK280 := bB BK280 hb; replace HB := bS1 HB GE280 hb; (try clear hb)))
  go_ret
  exact er (bbw1 HB GE280)

attribute [local go_sem high] eqA55
/-! ### impl_IsSubgroup: function 12 -/
def impl_IsSubgroup.f (k : Nat) (a0 : Int) (a1_0 : Int) (a1_1 : Int) (a1_2 : Int) (l2 : List (S55)) (l3 : List (S55)) : Option (Bool) := (impl_groupCode.f k a0 a1_0 a1_1 a1_2 (([l2, l3] : List (List (S55))))).bind fun t465 => (if t465 = 0 then ((impl_containsAll.f k l2 l3).bind fun t466 => (some t466)) else (some false))
set_option maxHeartbeats 8000000 in
set_option maxRecDepth 100000 in
theorem impl_IsSubgroup.calls (k : Nat) (a0 : Int) (a1_0 : Int) (a1_1 : Int) (a1_2 : Int) (P2_ : Nat → Prop) (A2 : Option Addr) (c2 : Nat) (l2 : List (S55)) (P3_ : Nat → Prop) (A3 : Option Addr) (c3 : Nat) (l3 : List (S55)) (r : Bool) (w : World) (hs2 : Kd.V k55 55 w w.heap.size (fun k_ => P2_ k_) (.slice A2 l2.length c2) l2) (hs3 : Kd.V k55 55 w w.heap.size (fun k_ => P3_ k_) (.slice A3 l3.length c3) l3) (h : impl_IsSubgroup.f k a0 a1_0 a1_1 a1_2 l2 l3 = some r) :
  Calls Try.prog 12 #[.int .i64 a0, .agg #[.int .i64 a1_0, .int .i64 a1_1, .int .i64 a1_2], .slice A2 l2.length c2, .slice A3 l3.length c3] w fun e w' => e = .returned (.bool r) ∧ Below w.heap.size w w' := by
 have hu27 := Try.underlying27
 have HO2 := asd (show Kd.V k55 55 w w.heap.size (fun k_ => ((P2_ k_ ∨ P3_ k_) ∨ w.heap.size ≤ k_)) (.slice A2 l2.length c2) l2 from Kd.V_mono hs2 (fun k_ hk => .inl (.inl hk)))
 have HO3 := asd (show Kd.V k55 55 w w.heap.size (fun k_ => ((P2_ k_ ∨ P3_ k_) ∨ w.heap.size ≤ k_)) (.slice A3 l3.length c3) l3 from Kd.V_mono hs3 (fun k_ hk => .inl (.inr hk)))
 have HB := asd (Below.refl w.heap.size w)
 have H : ((impl_groupCode.f k a0 a1_0 a1_1 a1_2 (([l2, l3] : List (List (S55))))).bind fun t465 => (if t465 = 0 then ((impl_containsAll.f k l2 l3).bind fun t466 => (some t466)) else (some false))) = some r := h
 clear h
 obtain ⟨y462, hy462⟩ : ∃ y_ : List (List (S55)), y_ = (([l2, l3] : List (List (S55)))) := ⟨_, rfl⟩
 replace H : ((impl_groupCode.f k a0 a1_0 a1_1 a1_2 y462).bind fun t465 => (if t465 = 0 then ((impl_containsAll.f k l2 l3).bind fun t466 => (some t466)) else (some false))) = some r := by first | (rw [hy462]; with_reducible exact H) | (have H2_ := (Option.bind_some _ _).symm.trans H; rw [hy462]; with_reducible exact H2_) | (have H2_ := (Option.bind_some _ _).symm.trans H; with_reducible exact H2_) | with_reducible exact H | (rw [hy462]; exact H) | exact H
 have Ny462 := Aside0.mk hy462
 clear hy462
 obtain ⟨t465, A5, H⟩ := ob H
 try dsimp only at H
 by_cases c6 : t465 = 0
 rw [if_pos c6] at H
 have c6b0 : (t465 == 0) = true := beq_iff_eq.mpr c6
 have c6b1 : (t465 != 0) = false := bne_eq_false_iff_eq.mpr c6
 clear c6
 obtain ⟨t466, A7, H⟩ := ob H
 try dsimp only at H
 obtain rfl := Option.some.inj H
 rotate_left
 rw [if_neg c6] at H
 have c6b0 : (t465 == 0) = false := beq_eq_false_iff_ne.mpr c6
 have c6b1 : (t465 != 0) = true := bne_iff_ne.mpr c6
 obtain rfl := Option.some.inj H
 rotate_left
 all_goals
  go_enter Try.func12, Try.ntmps12
  go_wp2_with (first | ((with_reducible refine gd 5 rfl ?_); refine bx #[.int .i64 a1_0, .int .i64 a1_1, .int .i64 a1_2] 27 ?_; intro gb461 hg w8 BK461 hb; replace HO2 := asd (Kd.V_below (Kd.V_elderB (by (with_reducible repeat (first | apply Kd.V_alloc | apply Kd.V_drewN | apply Kd.V_drew)); exact HO2.out) gb461 (Nat.le_of_eq hg.symm)) hb); replace HO3 := asd (Kd.V_below (Kd.V_elderB (by (with_reducible repeat (first | apply Kd.V_alloc | apply Kd.V_drewN | apply Kd.V_drew)); exact HO3.out) gb461 (Nat.le_of_eq hg.symm)) hb); have GE461 := ngw0 hg HB; replace HB := bS0 HB hb; clear hb hg; obtain ⟨hcz9_0, hcz9_1, hcz9_2, hfz9_0, hfz9_1, hfz9_2⟩ := bz3 BK461) | ((with_reducible refine gd 13 rfl ?_); refine Kd.N_lit (Kd.slice 55 k55) _ 29 ?hg (N' := 13) ?hd (xs := ([l2, l3] : List (List (S55)))) (inner := [.slice A2 l2.length c2, .slice A3 l3.length c3]) (ok := (fun k_ => ((P2_ k_ ∨ P3_ k_) ∨ w.heap.size ≤ k_) ∧ k_ ≠ gb461)) (okp := (fun k_ => ((P2_ k_ ∨ P3_ k_) ∨ w.heap.size ≤ k_) ∧ k_ ≠ gb461)) ?hr ?hp (fun _ hk => hk) ((show ∀ k_, w8.heap.size ≤ k_ → (fun k_ => ((P2_ k_ ∨ P3_ k_) ∨ w.heap.size ≤ k_) ∧ k_ ≠ gb461) k_ from fun k_ hk => ⟨(.inr (Nat.le_trans (bsz1 HB GE461) hk)), Kd.freshB (g := gb461) (o := .cells #[.int .i64 a1_0, .int .i64 a1_1, .int .i64 a1_2] 27 (0, 0)) (bkp BK461) k_ hk⟩) _ (Nat.le_refl _)) (Below.refl _ _) (Nat.le_refl _) (by simp) ?_; (case hd => rfl); (case hg => rfl); (case hr => first | (go_simp; done) | (go_simp; rfl)); (case hp => exact (Reps.one (show Kd.FK (Kd.slice 55 k55) _ _ l2 [.slice A2 l2.length c2] from (Kd.FK_slice_mk (Kd.V_reads' (Kd.V_mono (ok' := (fun k_ => ((P2_ k_ ∨ P3_ k_) ∨ w.heap.size ≤ k_) ∧ k_ ≠ gb461)) (HO2.out) (fun k_ hk => ⟨hk.1, hk.2⟩))).2.1 (Kd.V_F (Kd.V_mono (ok' := (fun k_ => ((P2_ k_ ∨ P3_ k_) ∨ w.heap.size ≤ k_) ∧ k_ ≠ gb461)) (HO2.out) (fun k_ hk => ⟨hk.1, hk.2⟩))))) (Reps.one (show Kd.FK (Kd.slice 55 k55) _ _ l3 [.slice A3 l3.length c3] from (Kd.FK_slice_mk (Kd.V_reads' (Kd.V_mono (ok' := (fun k_ => ((P2_ k_ ∨ P3_ k_) ∨ w.heap.size ≤ k_) ∧ k_ ≠ gb461)) (HO3.out) (fun k_ hk => ⟨hk.1, hk.2⟩))).2.1 (Kd.V_F (Kd.V_mono (ok' := (fun k_ => ((P2_ k_ ∨ P3_ k_) ∨ w.heap.size ≤ k_) ∧ k_ ≠ gb461)) (HO3.out) (fun k_ hk => ⟨hk.1, hk.2⟩))))) (Reps.none _ _)))); intro v463 w10 ho11 hb hg_ hnew_; clear hg_ hnew_; (first | rw [← Ny462.out] at ho11 | (simp only [Int.reduceToNat] at ho11; rw [← Ny462.out] at ho11)); replace HO2 := asd (Kd.V_elder' (by (with_reducible repeat (first | apply Kd.V_alloc | apply Kd.V_drewN | apply Kd.V_drew)); exact HO2.out) (Kd.N_base ho11) hb); replace HO3 := asd (Kd.V_elder' (by (with_reducible repeat (first | apply Kd.V_alloc | apply Kd.V_drewN | apply Kd.V_drew)); exact HO3.out) (Kd.N_base ho11) hb); have HO464 := asd (Kd.N_lower ho11 (bsz1 HB GE461)); replace BK461 := bB BK461 hb; replace HB := bS1 HB GE461 hb; clear hb ho11; obtain ⟨Ao12, co12, eo12⟩ := Kd.N_slice HO464.out; subst eo12) | ((with_reducible refine gate_callee (f := 32) rfl ?_); refine gl 14 Try.func32 #[.int .i64 a0, .agg #[.int .i64 a1_0, .int .i64 a1_1, .int .i64 a1_2], .slice Ao12 y462.length co12] ?_; (with_reducible refine (impl_groupCode.calls _ _ _ _ _ _ _ _ _ _ ?side1 ?side2 A5.out).mono ?_); (case side1 => exact ks (Kd.N_reads' HO464.out).2.2); (case side2 => exact (Kd.N_reads' HO464.out).2.1); rintro e w13 ⟨rfl, hb⟩; refine ⟨_, rfl, ?_⟩; replace HO2 := asd (Kd.V_below (by (with_reducible repeat (first | apply Kd.V_alloc | apply Kd.V_drewN | apply Kd.V_drew)); exact HO2.out) hb); replace HO3 := asd (Kd.V_below (by (with_reducible repeat (first | apply Kd.V_alloc | apply Kd.V_drewN | apply Kd.V_drew)); exact HO3.out) hb); replace HO464 := asd (Kd.N_below (by (with_reducible repeat (first | apply Kd.N_alloc | apply Kd.N_drewN | apply Kd.N_drew)); exact HO464.out) hb); replace BK461 := bB BK461 hb; replace HB := bS1 HB GE461 hb; (try clear hb)) | (go_at_call 33; (with_reducible refine (impl_containsAll.calls _ _ _ _ _ _ _ _ _ ?side1 ?side2 ?side3 ?side4 A7.out).mono ?_); (case side1 => exact ks (Kd.V_reads' HO2.out).2.2); (case side2 => exact (Kd.V_reads' HO2.out).2.1); (case side3 => exact ks (Kd.V_reads' HO3.out).2.2); (case side4 => exact (Kd.V_reads' HO3.out).2.1); rintro e w14 ⟨rfl, hb⟩; replace HO2 := asd (Kd.V_below (by (with_reducible repeat (first | apply Kd.V_alloc | apply Kd.V_drewN | apply Kd.V_drew)); exact HO2.out) hb); replace HO3 := asd (Kd.V_below (by (with_reducible repeat (first | apply Kd.V_alloc | apply Kd.V_drewN | apply Kd.V_drew)); exact HO3.out) hb); replace HO464 := asd (Kd.N_below (by (with_reducible repeat (first | apply Kd.N_alloc | apply Kd.N_drewN | apply Kd.N_drew)); exact HO464.out) hb); replace BK461 := bB BK461 hb; replace HB := bS1 HB GE461 hb; (try clear hb)))
  go_ret
  exact er (bbw1 HB GE461)
/-! ### laws_FnExactIsSubgroup: function 3 -/
def laws_FnExactIsSubgroup.f (k : Nat) (a0 : Int) (a1_0 : Int) (a1_1 : Int) (a1_2 : Int) (l2 : List (S60)) (l3 : List (S60)) : Option (Bool) := (laws_szMotionS.f l2 1048576).bind fun t479 => (if t479 < 0 then (some true) else ((laws_szMotionS.f l3 t479).bind fun t480 => (if t480 < 0 then (some true) else ((laws_toLattice.f a1_0 a1_1 a1_2).bind fun bt481 => ((laws_toMotionS.f k l2).bind fun t484 => ((laws_toMotionS.f k l3).bind fun t487 => ((spec_IsSubgroup.f k a0 bt481.1 bt481.2.1 bt481.2.2 t484 t487).bind fun t490 => ((laws_toMotionS.f k l2).bind fun t491 => ((laws_toMotionS.f k l3).bind fun t494 => ((laws_toLattice.f a1_0 a1_1 a1_2).bind fun bt497 => ((impl_IsSubgroup.f k a0 bt497.1 bt497.2.1 bt497.2.2 t491 t494).bind fun t500 => (if (t500 != t490) = true then (some false) else ((laws_toMotionS.f k l2).bind fun t501 => ((laws_eqMotionS.f k t491 t501).bind fun t504 => (if t504 = true then ((laws_toMotionS.f k l3).bind fun t505 => ((laws_eqMotionS.f k t494 t505).bind fun t508 => (if t508 = true then (some true) else (some false)))) else (some false))))))))))))))))
set_option maxHeartbeats 8000000 in
set_option maxRecDepth 100000 in
theorem laws_FnExactIsSubgroup.calls (k : Nat) (a0 : Int) (a1_0 : Int) (a1_1 : Int) (a1_2 : Int) (A2 : Option Addr) (c2 : Nat) (l2 : List (S60)) (A3 : Option Addr) (c3 : Nat) (l3 : List (S60)) (w : World) (hr2 : Kd.C k60 w A2 l2.length l2) (hc2 : l2.length ≤ c2) (hr3 : Kd.C k60 w A3 l3.length l3) (hc3 : l3.length ≤ c3) (h : laws_FnExactIsSubgroup.f k a0 a1_0 a1_1 a1_2 l2 l3 = some true) :
  Calls Try.prog 3 #[.int .i64 a0, .agg #[.int .i64 a1_0, .int .i64 a1_1, .int .i64 a1_2], .slice A2 l2.length c2, .slice A3 l3.length c3] w fun e w' => e = .returned (.bool true) ∧ Below w.heap.size w w' := by
 have hu23 := Try.underlying23
 have HR2 := Aside0.mk hr2
 have HC2 := Aside0.mk hc2
 clear hr2 hc2
 have HR3 := Aside0.mk hr3
 have HC3 := Aside0.mk hc3
 clear hr3 hc3
 have HB := asd (Below.refl w.heap.size w)
 have H : ((laws_szMotionS.f l2 1048576).bind fun t479 => (if t479 < 0 then (some true) else ((laws_szMotionS.f l3 t479).bind fun t480 => (if t480 < 0 then (some true) else ((laws_toLattice.f a1_0 a1_1 a1_2).bind fun bt481 => ((laws_toMotionS.f k l2).bind fun t484 => ((laws_toMotionS.f k l3).bind fun t487 => ((spec_IsSubgroup.f k a0 bt481.1 bt481.2.1 bt481.2.2 t484 t487).bind fun t490 => ((laws_toMotionS.f k l2).bind fun t491 => ((laws_toMotionS.f k l3).bind fun t494 => ((laws_toLattice.f a1_0 a1_1 a1_2).bind fun bt497 => ((impl_IsSubgroup.f k a0 bt497.1 bt497.2.1 bt497.2.2 t491 t494).bind fun t500 => (if (t500 != t490) = true then (some false) else ((laws_toMotionS.f k l2).bind fun t501 => ((laws_eqMotionS.f k t491 t501).bind fun t504 => (if t504 = true then ((laws_toMotionS.f k l3).bind fun t505 => ((laws_eqMotionS.f k t494 t505).bind fun t508 => (if t508 = true then (some true) else (some false)))) else (some false))))))))))))))))) = some true := h
 clear h
 obtain ⟨t479, A5, H⟩ := ob H
 try dsimp only at H
 by_cases c6 : t479 < 0
 rw [if_pos c6] at H
 have c6b0 := decide_eq_true c6
 clear c6
 clear H
 rotate_left
 rw [if_neg c6] at H
 have c6b0 := decide_eq_false c6
 clear c6
 obtain ⟨t480, A8, H⟩ := ob H
 try dsimp only at H
 by_cases c9 : t480 < 0
 rw [if_pos c9] at H
 have c9b0 := decide_eq_true c9
 clear c9
 clear H
 rotate_left
 rw [if_neg c9] at H
 have c9b0 := decide_eq_false c9
 clear c9
 obtain ⟨⟨t481, t482, t483⟩, A11, H⟩ := ob H
 try dsimp only at H
 obtain ⟨t484, A12, H⟩ := ob H
 try dsimp only at H
 obtain ⟨t487, A13, H⟩ := ob H
 try dsimp only at H
 obtain ⟨t490, A14, H⟩ := ob H
 try dsimp only at H
 obtain ⟨t491, A15, H⟩ := ob H
 try dsimp only at H
 obtain ⟨t494, A16, H⟩ := ob H
 try dsimp only at H
 obtain ⟨⟨t497, t498, t499⟩, A17, H⟩ := ob H
 try dsimp only at H
 obtain ⟨t500, A18, H⟩ := ob H
 try dsimp only at H
 by_cases c19 : (t500 != t490) = true
 ·rw [if_pos c19] at H
  have c19b0 := c19
  (try (have c19b1 : decide (t500 = t490) = false := by simpa using c19))
  (try (have c19b2 : (t500 == t490) = false := by simpa using c19))
  (try (have c19b3 : ¬ (t500 = t490) := by simpa using c19))
  clear c19
  exact absurd H (by simp)
 rw [if_neg c19] at H
 have c19b0 : (t500 != t490) = false := by simpa using c19
 (try (have c19b1 : decide (t500 = t490) = true := by simpa using c19))
 (try (have c19b2 : (t500 == t490) = true := by simpa using c19))
 clear c19
 obtain ⟨t501, A20, H⟩ := ob H
 try dsimp only at H
 obtain ⟨t504, A21, H⟩ := ob H
 try dsimp only at H
 by_cases c22 : t504 = true
 subst c22
 replace H := ifT H
 obtain ⟨t505, A23, H⟩ := ob H
 try dsimp only at H
 obtain ⟨t508, A24, H⟩ := ob H
 try dsimp only at H
 by_cases c25 : t508 = true
 subst c25
 replace H := ifT H
 clear H
 rotate_left
 ·replace c25 := Bool.eq_false_iff.mpr c25
  subst c25
  replace H := ifF H
  exact absurd H (by simp)
 ·replace c22 := Bool.eq_false_iff.mpr c22
  subst c22
  replace H := ifF H
  exact absurd H (by simp)
 all_goals
  go_enter Try.func3, Try.ntmps3
 rotate_left
 ·go_wp2_with (first | ((with_reducible refine gd 5 rfl ?_); refine bx #[.int .i64 a1_0, .int .i64 a1_1, .int .i64 a1_2] 23 ?_; intro gb478 hg w10 BK478 hb; have GE478 := ngw0 hg HB; replace HB := bS0 HB hb; clear hb hg) | ((with_reducible refine gate_callee (f := 8) rfl ?_); refine gl 16 Try.func8 #[.slice A2 l2.length c2, .int .i64 1048576] ?_; (with_reducible refine (laws_szMotionS.calls _ _ _ _ _ _ ?side1 ?side2 A5.out).mono ?_); (case side1 => exact ks (Kd.C_below HR2.out HB.out)); (case side2 => exact HC2.out); rintro e w' ⟨rfl, ⟨nd, rfl⟩⟩; refine ⟨_, rfl, ?_⟩) | ((with_reducible refine gate_callee (f := 8) rfl ?_); refine gl 21 Try.func8 #[.slice A3 l3.length c3, .int .i64 t479] ?_; (with_reducible refine (laws_szMotionS.calls _ _ _ _ _ _ ?side1 ?side2 A8.out).mono ?_); (case side1 => exact ks (Kd.C_below HR3.out (bbw1 HB GE478))); (case side2 => exact HC3.out); rintro e w' ⟨rfl, ⟨nd, rfl⟩⟩; refine ⟨_, rfl, ?_⟩))
  go_ret
  exact er (bbw1 HB GE478)
 rotate_left
 all_goals
  go_wp2_with (first | ((with_reducible refine gd 5 rfl ?_); refine bx #[.int .i64 a1_0, .int .i64 a1_1, .int .i64 a1_2] 23 ?_; intro gb478 hg w7 BK478 hb; have GE478 := ngw0 hg HB; replace HB := bS0 HB hb; clear hb hg) | ((with_reducible refine gate_callee (f := 8) rfl ?_); refine gl 16 Try.func8 #[.slice A2 l2.length c2, .int .i64 1048576] ?_; (with_reducible refine (laws_szMotionS.calls _ _ _ _ _ _ ?side1 ?side2 A5.out).mono ?_); (case side1 => exact ks (Kd.C_below HR2.out HB.out)); (case side2 => exact HC2.out); rintro e w' ⟨rfl, ⟨nd, rfl⟩⟩; refine ⟨_, rfl, ?_⟩) | ((with_reducible refine gate_callee (f := 8) rfl ?_); refine gl 21 Try.func8 #[.slice A3 l3.length c3, .int .i64 t479] ?_; (with_reducible refine (laws_szMotionS.calls _ _ _ _ _ _ ?side1 ?side2 A8.out).mono ?_); (case side1 => exact ks (Kd.C_below HR3.out (bbw1 HB GE478))); (case side2 => exact HC3.out); rintro e w' ⟨rfl, ⟨nd, rfl⟩⟩; refine ⟨_, rfl, ?_⟩; have hcz27_0 : w7.cell? ⟨gb478, 0, none⟩ = some (.int .i64 a1_0) := bcl BK478 0; have hcz27_1 : w7.cell? ⟨gb478, 1, none⟩ = some (.int .i64 a1_1) := bcl BK478 1; have hcz27_2 : w7.cell? ⟨gb478, 2, none⟩ = some (.int .i64 a1_2) := bcl BK478 2; have hfz27_0 := blk_frozen BK478.out 0; have hfz27_1 := blk_frozen BK478.out 1; have hfz27_2 := blk_frozen BK478.out 2) | ((with_reducible refine gate_callee (f := 10) rfl ?_); refine gl 26 Try.func10 #[.agg #[.int .i64 a1_0, .int .i64 a1_1, .int .i64 a1_2]] ?_; (with_reducible refine (laws_toLattice.calls _ _ _ _ _ _ _ A11.out).mono ?_); rintro e w28 ⟨rfl, hb⟩; refine ⟨_, rfl, ?_⟩; replace BK478 := bB BK478 hb; replace HB := bS1 HB GE478 hb; (try clear hb)) | ((with_reducible refine gate_callee (f := 11) rfl ?_); refine gl 28 Try.func11 #[.slice A2 l2.length c2] ?_; (with_reducible refine (laws_toMotionS.calls _ _ _ _ _ _ ?side1 ?side2 A12.out).mono ?_); (case side1 => exact ks (Kd.C_below HR2.out HB.out)); (case side2 => exact HC2.out); rintro e w29 ⟨v485, rfl, ho0, hb⟩; refine ⟨_, rfl, ?_⟩; have HO486 := asd (Kd.R_lower ho0 (bsz1 HB GE478)); replace BK478 := bB BK478 hb; replace HB := bS1 HB GE478 hb; (try clear hb); (try clear hb2); (try clear hk); (try clear hi); (try clear ho0)) | ((with_reducible refine gate_callee (f := 11) rfl ?_); refine gl 30 Try.func11 #[.slice A3 l3.length c3] ?_; (with_reducible refine (laws_toMotionS.calls _ _ _ _ _ _ ?side1 ?side2 A13.out).mono ?_); (case side1 => exact ks (Kd.C_below HR3.out HB.out)); (case side2 => exact HC3.out); rintro e w30 ⟨v488, rfl, ho0, hb⟩; refine ⟨_, rfl, ?_⟩; have HO489 := asd (Kd.R_lower (Kd.R_new' ho0 (Kd.R_lt (kr HO486))) (bsz1 HB GE478)); replace HO486 := asd (Kd.R_elder' (kr HO486) (Kd.R_base ho0) hb); replace BK478 := bB BK478 hb; replace HB := bS1 HB GE478 hb; (try clear hb); (try clear hb2); (try clear hk); (try clear hi); (try clear ho0); obtain ⟨Ao31, co31, eo31⟩ := Kd.R_slice HO486.out; subst eo31; obtain ⟨Ao32, co32, eo32⟩ := Kd.R_slice HO489.out; subst eo32) | ((with_reducible refine gate_callee (f := 9) rfl ?_); refine gl 31 Try.func9 #[.int .i64 a0, .agg #[.int .i64 t481, .int .i64 t482, .int .i64 t483], .slice Ao31 t484.length co31, .slice Ao32 t487.length co32] ?_; (with_reducible refine (spec_IsSubgroup.calls _ _ _ _ _ _ _ _ _ _ _ _ _ ?side1 ?side2 ?side3 ?side4 A14.out).mono ?_); (case side1 => exact ks (Kd.R_reads' HO486.out).2.2); (case side2 => exact (Kd.R_reads' HO486.out).2.1); (case side3 => exact ks (Kd.R_reads' HO489.out).2.2); (case side4 => exact (Kd.R_reads' HO489.out).2.1); rintro e w33 ⟨rfl, hb⟩; refine ⟨_, rfl, ?_⟩; replace HO486 := asd (Kd.R_below (kr HO486) hb); replace HO489 := asd (Kd.R_below (kr HO489) hb); replace BK478 := bB BK478 hb; replace HB := bS1 HB GE478 hb; (try clear hb)) | ((with_reducible refine gate_callee (f := 11) rfl ?_); refine gl 33 Try.func11 #[.slice A2 l2.length c2] ?_; (with_reducible refine (laws_toMotionS.calls _ _ _ _ _ _ ?side1 ?side2 A15.out).mono ?_); (case side1 => exact ks (Kd.C_below HR2.out HB.out)); (case side2 => exact HC2.out); rintro e w34 ⟨v492, rfl, ho0, hb⟩; refine ⟨_, rfl, ?_⟩; have HO493 := asd (Kd.R_lower (Kd.R_new' (Kd.R_new' ho0 (Kd.R_lt (kr HO486))) (Kd.R_lt (kr HO489))) (bsz1 HB GE478)); replace HO486 := asd (Kd.R_elder' (kr HO486) (Kd.R_base ho0) hb); replace HO489 := asd (Kd.R_elder' (kr HO489) (Kd.R_base ho0) hb); replace BK478 := bB BK478 hb; replace HB := bS1 HB GE478 hb; (try clear hb); (try clear hb2); (try clear hk); (try clear hi); (try clear ho0)) | ((with_reducible refine gate_callee (f := 11) rfl ?_); refine gl 35 Try.func11 #[.slice A3 l3.length c3] ?_; (with_reducible refine (laws_toMotionS.calls _ _ _ _ _ _ ?side1 ?side2 A16.out).mono ?_); (case side1 => exact ks (Kd.C_below HR3.out HB.out)); (case side2 => exact HC3.out); rintro e w35 ⟨v495, rfl, ho0, hb⟩; refine ⟨_, rfl, ?_⟩; have HO496 := asd (Kd.R_lower (Kd.R_new' (Kd.R_new' (Kd.R_new' ho0 (Kd.R_lt (kr HO486))) (Kd.R_lt (kr HO489))) (Kd.R_lt (kr HO493))) (bsz1 HB GE478)); replace HO486 := asd (Kd.R_elder' (kr HO486) (Kd.R_base ho0) hb); replace HO489 := asd (Kd.R_elder' (kr HO489) (Kd.R_base ho0) hb); replace HO493 := asd (Kd.R_elder' (kr HO493) (Kd.R_base ho0) hb); replace BK478 := bB BK478 hb; replace HB := bS1 HB GE478 hb; (try clear hb); (try clear hb2); (try clear hk); (try clear hi); (try clear ho0); obtain ⟨hcz36_0, hcz36_1, hcz36_2, hfz36_0, hfz36_1, hfz36_2⟩ := bz3 BK478) | ((with_reducible refine gate_callee (f := 10) rfl ?_); refine gl 38 Try.func10 #[.agg #[.int .i64 a1_0, .int .i64 a1_1, .int .i64 a1_2]] ?_; (with_reducible refine (laws_toLattice.calls _ _ _ _ _ _ _ A17.out).mono ?_); rintro e w37 ⟨rfl, hb⟩; refine ⟨_, rfl, ?_⟩; replace HO486 := asd (Kd.R_below (kr HO486) hb); replace HO489 := asd (Kd.R_below (kr HO489) hb); replace HO493 := asd (Kd.R_below (kr HO493) hb); replace HO496 := asd (Kd.R_below (kr HO496) hb); replace BK478 := bB BK478 hb; replace HB := bS1 HB GE478 hb; (try clear hb); obtain ⟨Ao38, co38, eo38⟩ := Kd.R_slice HO493.out; subst eo38; obtain ⟨Ao39, co39, eo39⟩ := Kd.R_slice HO496.out; subst eo39) | ((with_reducible refine gate_callee (f := 12) rfl ?_); refine gl 41 Try.func12 #[.int .i64 a0, .agg #[.int .i64 t497, .int .i64 t498, .int .i64 t499], .slice Ao38 t491.length co38, .slice Ao39 t494.length co39] ?_; (with_reducible refine (impl_IsSubgroup.calls _ _ _ _ _ (fun k_ => some k_ = (.slice Ao38 t491.length co38 : Value).ownBlock) _ _ _ (fun k_ => some k_ = (.slice Ao39 t494.length co39 : Value).ownBlock) _ _ _ _ _ ?side1 ?side2 A18.out).mono ?_); (case side1 => exact Kd.R_V (Kd.R_tight rfl (Kd.R_types (HO493.out) BK478.out (by decide)))); (case side2 => exact Kd.R_V (Kd.R_tight rfl (Kd.R_types (HO496.out) BK478.out (by decide)))); rintro e w40 ⟨rfl, hb⟩; refine ⟨_, rfl, ?_⟩; replace HO486 := asd (Kd.R_below (kr HO486) hb); replace HO489 := asd (Kd.R_below (kr HO489) hb); replace HO493 := asd (Kd.R_below (kr HO493) hb); replace HO496 := asd (Kd.R_below (kr HO496) hb); replace BK478 := bB BK478 hb; replace HB := bS1 HB GE478 hb; (try clear hb)) | ((with_reducible refine gate_callee (f := 11) rfl ?_); refine gl 47 Try.func11 #[.slice A2 l2.length c2] ?_; (with_reducible refine (laws_toMotionS.calls _ _ _ _ _ _ ?side1 ?side2 A20.out).mono ?_); (case side1 => exact ks (Kd.C_below HR2.out HB.out)); (case side2 => exact HC2.out); rintro e w41 ⟨v502, rfl, ho0, hb⟩; refine ⟨_, rfl, ?_⟩; have HO503 := asd (Kd.R_lower (Kd.R_new' (Kd.R_new' (Kd.R_new' (Kd.R_new' ho0 (Kd.R_lt (kr HO486))) (Kd.R_lt (kr HO489))) (Kd.R_lt (kr HO493))) (Kd.R_lt (kr HO496))) (bsz1 HB GE478)); replace HO486 := asd (Kd.R_elder' (kr HO486) (Kd.R_base ho0) hb); replace HO489 := asd (Kd.R_elder' (kr HO489) (Kd.R_base ho0) hb); replace HO493 := asd (Kd.R_elder' (kr HO493) (Kd.R_base ho0) hb); replace HO496 := asd (Kd.R_elder' (kr HO496) (Kd.R_base ho0) hb); replace BK478 := bB BK478 hb; replace HB := bS1 HB GE478 hb; (try clear hb); (try clear hb2); (try clear hk); (try clear hi); (try clear ho0); obtain ⟨Ao42, co42, eo42⟩ := Kd.R_slice HO503.out; subst eo42) | ((with_reducible refine gate_callee (f := 13) rfl ?_); refine gl 48 Try.func13 #[.slice Ao38 t491.length co38, .slice Ao42 t501.length co42] ?_; (with_reducible refine (laws_eqMotionS.calls _ _ _ _ _ _ _ _ _ ?side1 ?side2 ?side3 ?side4 A21.out).mono ?_); (case side1 => exact ks (Kd.R_reads' HO493.out).2.2); (case side2 => exact (Kd.R_reads' HO493.out).2.1); (case side3 => exact ks (Kd.R_reads' HO503.out).2.2); (case side4 => exact (Kd.R_reads' HO503.out).2.1); rintro e w43 ⟨rfl, hb⟩; refine ⟨_, rfl, ?_⟩; replace HO486 := asd (Kd.R_below (kr HO486) hb); replace HO489 := asd (Kd.R_below (kr HO489) hb); replace HO493 := asd (Kd.R_below (kr HO493) hb); replace HO496 := asd (Kd.R_below (kr HO496) hb); replace HO503 := asd (Kd.R_below (kr HO503) hb); replace BK478 := bB BK478 hb; replace HB := bS1 HB GE478 hb; (try clear hb)) | ((with_reducible refine gate_callee (f := 11) rfl ?_); refine gl 52 Try.func11 #[.slice A3 l3.length c3] ?_; (with_reducible refine (laws_toMotionS.calls _ _ _ _ _ _ ?side1 ?side2 A23.out).mono ?_); (case side1 => exact ks (Kd.C_below HR3.out HB.out)); (case side2 => exact HC3.out); rintro e w44 ⟨v506, rfl, ho0, hb⟩; refine ⟨_, rfl, ?_⟩; have HO507 := asd (Kd.R_lower (Kd.R_new' (Kd.R_new' (Kd.R_new' (Kd.R_new' (Kd.R_new' ho0 (Kd.R_lt (kr HO486))) (Kd.R_lt (kr HO489))) (Kd.R_lt (kr HO493))) (Kd.R_lt (kr HO496))) (Kd.R_lt (kr HO503))) (bsz1 HB GE478)); replace HO486 := asd (Kd.R_elder' (kr HO486) (Kd.R_base ho0) hb); replace HO489 := asd (Kd.R_elder' (kr HO489) (Kd.R_base ho0) hb); replace HO493 := asd (Kd.R_elder' (kr HO493) (Kd.R_base ho0) hb); replace HO496 := asd (Kd.R_elder' (kr HO496) (Kd.R_base ho0) hb); replace HO503 := asd (Kd.R_elder' (kr HO503) (Kd.R_base ho0) hb); replace BK478 := bB BK478 hb; replace HB := bS1 HB GE478 hb; (try clear hb); (try clear hb2); (try clear hk); (try clear hi); (try clear ho0); obtain ⟨Ao45, co45, eo45⟩ := Kd.R_slice HO507.out; subst eo45) | ((with_reducible refine gate_callee (f := 13) rfl ?_); refine gl 53 Try.func13 #[.slice Ao39 t494.length co39, .slice Ao45 t505.length co45] ?_; (with_reducible refine (laws_eqMotionS.calls _ _ _ _ _ _ _ _ _ ?side1 ?side2 ?side3 ?side4 A24.out).mono ?_); (case side1 => exact ks (Kd.R_reads' HO496.out).2.2); (case side2 => exact (Kd.R_reads' HO496.out).2.1); (case side3 => exact ks (Kd.R_reads' HO507.out).2.2); (case side4 => exact (Kd.R_reads' HO507.out).2.1); rintro e w46 ⟨rfl, hb⟩; refine ⟨_, rfl, ?_⟩; replace HO486 := asd (Kd.R_below (kr HO486) hb); replace HO489 := asd (Kd.R_below (kr HO489) hb); replace HO493 := asd (Kd.R_below (kr HO493) hb); replace HO496 := asd (Kd.R_below (kr HO496) hb); replace HO503 := asd (Kd.R_below (kr HO503) hb); replace HO507 := asd (Kd.R_below (kr HO507) hb); replace BK478 := bB BK478 hb; replace HB := bS1 HB GE478 hb; (try clear hb)))
  go_ret
  exact er (bbw1 HB GE478)

/-- The one plain statement of laws_FnExactIsSubgroup. -/
def laws_FnExactIsSubgroup.Pure : Prop := ∀ (a0 : Int) (a1_0 : Int) (a1_1 : Int) (a1_2 : Int) (l2 : List (S60)) (l3 : List (S60)), (Lit.int .i64 a0).wf = true → (Lit.int .i64 a1_0).wf = true → (Lit.int .i64 a1_1).wf = true → (Lit.int .i64 a1_2).wf = true → l2.length ≤ maxLen → (∀ x ∈ l2, (Lit.int .i64 x.f0.f0).wf = true ∧ (Lit.int .i64 x.f0.f1).wf = true ∧ (Lit.int .i64 x.f0.f2).wf = true ∧ (Lit.int .i64 x.f0.f3).wf = true ∧ (Lit.int .i64 x.f1.f0).wf = true ∧ (Lit.int .i64 x.f1.f1).wf = true) → l3.length ≤ maxLen → (∀ x ∈ l3, (Lit.int .i64 x.f0.f0).wf = true ∧ (Lit.int .i64 x.f0.f1).wf = true ∧ (Lit.int .i64 x.f0.f2).wf = true ∧ (Lit.int .i64 x.f0.f3).wf = true ∧ (Lit.int .i64 x.f1.f0).wf = true ∧ (Lit.int .i64 x.f1.f1).wf = true) → ∃ k, laws_FnExactIsSubgroup.f k a0 a1_0 a1_1 a1_2 l2 l3 = some true
end Go.Proofs.Ytcchmdodifkloaa.PA
