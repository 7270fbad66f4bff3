/- Walks written by program: each Go function that the law reaches comes to the plain function beside it. -/
import Derived.Test.YtcchmdodifkloaaPAx0
import Derived.Test.YtcchmdodifkloaaPAx5
import Derived.Test.YtcchmdodifkloaaPAx17
namespace Go.Proofs.Ytcchmdodifkloaa.PA
open Go.RowKit Go.Proofs.YtcchmdodifkloaaW.PrintWords Go.Proofs.YtcchmdodifkloaaW.PrintLast Go.Proofs.YtcchmdodifkloaaW.PrintMore
attribute [local go_sem] max2_int min2_int max_two min_two max_three min_three max_four min_four   -- for this text's walks alone
set_option linter.unusedVariables false
set_option linter.unusedSimpArgs false

/-! ### laws_FnExactShiftsOf: function 5 -/
mutual
def laws_FnExactShiftsOf.j0 : Nat → Int → List (S60) → List (S53) → Int → List (S55) → List (S53) → Int → Bool → Int → Int → Int → Option (Bool)
 | 0, _, _, _, _, _, _, _, _, _, _, _ => none
 | k + 1, x0, x2, x8, x9, x10, x11, x12, x50, x611000, x611001, x611002 => if x50 = true then (some false) else ((laws_toMotionS.f k x2).bind fun t633 => ((laws_eqMotionS.f k x10 t633).bind fun t636 => (if t636 = true then ((laws_markMotionS.f k x10 1).bind fun bt637 => (if bt637.1 < 0 then (laws_FnExactShiftsOf.j1 k x0 x2 x8 x9 x11 true x611000 x611001 x611002) else ((laws_eqVecS.f k x11 x8).bind fun t639 => (if t639 = true then (laws_FnExactShiftsOf.j1 k x0 x2 x8 x9 x11 (x12 != x9) x611000 x611001 x611002) else (laws_FnExactShiftsOf.j1 k x0 x2 x8 x9 x11 true x611000 x611001 x611002))))) else (some false))))
def laws_FnExactShiftsOf.j1 : Nat → Int → List (S60) → List (S53) → Int → List (S53) → Bool → Int → Int → Int → Option (Bool)
 | 0, _, _, _, _, _, _, _, _, _ => none
 | k + 1, x0, x2, x8, x9, x11, x71, x611000, x611001, x611002 => if x71 = true then (some false) else ((laws_markVecS.f k x11 1).bind fun bt640 => ((laws_heldVecS.f k bt640.2 1).bind fun t642 => (if t642 < 0 then (some false) else (if t642 = bt640.1 then ((laws_toLattice.f x611000 x611001 x611002).bind fun bt643 => ((laws_toMotionS.f k x2).bind fun t646 => ((impl_ShiftsOf.f k x0 bt643.1 bt643.2.1 bt643.2.2 t646).bind fun bt649 => ((laws_eqVecS.f k bt649.1 x8).bind fun t653 => (if t653 = true then (laws_FnExactShiftsOf.j2 k bt640.2 bt640.1 (bt649.2 != x9)) else (laws_FnExactShiftsOf.j2 k bt640.2 bt640.1 true)))))) else (some false)))))
def laws_FnExactShiftsOf.j2 : Nat → List (S53) → Int → Bool → Option (Bool)
 | 0, _, _, _ => none
 | k + 1, x11, x14, x100 => if x100 = true then (some false) else ((laws_heldVecS.f k x11 1).bind fun t654 => (if t654 < 0 then (some false) else (if t654 = x14 then (some true) else (some false))))
end
def laws_FnExactShiftsOf.f (k : Nat) (a0 : Int) (a1_0 : Int) (a1_1 : Int) (a1_2 : Int) (l2 : List (S60)) : Option (Bool) := (laws_szMotionS.f l2 1048576).bind fun t611 => (if t611 < 0 then (some true) else ((laws_toLattice.f a1_0 a1_1 a1_2).bind fun bt612 => ((laws_toMotionS.f k l2).bind fun t615 => ((spec_ShiftsOf.f k a0 bt612.1 bt612.2.1 bt612.2.2 t615).bind fun bt618 => ((laws_toMotionS.f k l2).bind fun t622 => ((laws_toLattice.f a1_0 a1_1 a1_2).bind fun bt625 => ((impl_ShiftsOf.f k a0 bt625.1 bt625.2.1 bt625.2.2 t622).bind fun bt628 => ((laws_eqVecS.f k bt628.1 bt618.1).bind fun t632 => (if t632 = true then (laws_FnExactShiftsOf.j0 k a0 l2 bt618.1 bt618.2 t622 bt628.1 bt628.2 (bt628.2 != bt618.2) a1_0 a1_1 a1_2) else (laws_FnExactShiftsOf.j0 k a0 l2 bt618.1 bt618.2 t622 bt628.1 bt628.2 true a1_0 a1_1 a1_2))))))))))
set_option maxHeartbeats 8000000 in
set_option maxRecDepth 100000 in
theorem laws_FnExactShiftsOf.calls (k : Nat) (a0 : Int) (a1_0 : Int) (a1_1 : Int) (a1_2 : Int) (A2 : Option Addr) (c2 : Nat) (l2 : List (S60)) (w : World) (hr2 : Kd.C k60 w A2 l2.length l2) (hc2 : l2.length ≤ c2) (h : laws_FnExactShiftsOf.f k a0 a1_0 a1_1 a1_2 l2 = some true) :
  Calls Try.prog 5 #[.int .i64 a0, .agg #[.int .i64 a1_0, .int .i64 a1_1, .int .i64 a1_2], .slice A2 l2.length c2] w fun e w' => e = .returned (.bool true) ∧ Below w.heap.size w w' := by
 have hu23 := Try.underlying23
 have HR2 := Aside0.mk hr2
 have HC2 := Aside0.mk hc2
 clear hr2 hc2
 have HB := asd (Below.refl w.heap.size w)
 have H : ((laws_szMotionS.f l2 1048576).bind fun t611 => (if t611 < 0 then (some true) else ((laws_toLattice.f a1_0 a1_1 a1_2).bind fun bt612 => ((laws_toMotionS.f k l2).bind fun t615 => ((spec_ShiftsOf.f k a0 bt612.1 bt612.2.1 bt612.2.2 t615).bind fun bt618 => ((laws_toMotionS.f k l2).bind fun t622 => ((laws_toLattice.f a1_0 a1_1 a1_2).bind fun bt625 => ((impl_ShiftsOf.f k a0 bt625.1 bt625.2.1 bt625.2.2 t622).bind fun bt628 => ((laws_eqVecS.f k bt628.1 bt618.1).bind fun t632 => (if t632 = true then (laws_FnExactShiftsOf.j0 k a0 l2 bt618.1 bt618.2 t622 bt628.1 bt628.2 (bt628.2 != bt618.2) a1_0 a1_1 a1_2) else (laws_FnExactShiftsOf.j0 k a0 l2 bt618.1 bt618.2 t622 bt628.1 bt628.2 true a1_0 a1_1 a1_2))))))))))) = some true := h
 clear h
 obtain ⟨t611, A4, H⟩ := ob H
 replace H : (if t611 < 0 then (some true) else ((laws_toLattice.f a1_0 a1_1 a1_2).bind fun bt612 => ((laws_toMotionS.f k l2).bind fun t615 => ((spec_ShiftsOf.f k a0 bt612.1 bt612.2.1 bt612.2.2 t615).bind fun bt618 => ((laws_toMotionS.f k l2).bind fun t622 => ((laws_toLattice.f a1_0 a1_1 a1_2).bind fun bt625 => ((impl_ShiftsOf.f k a0 bt625.1 bt625.2.1 bt625.2.2 t622).bind fun bt628 => ((laws_eqVecS.f k bt628.1 bt618.1).bind fun t632 => (if t632 = true then (laws_FnExactShiftsOf.j0 k a0 l2 bt618.1 bt618.2 t622 bt628.1 bt628.2 (bt628.2 != bt618.2) a1_0 a1_1 a1_2) else (laws_FnExactShiftsOf.j0 k a0 l2 bt618.1 bt618.2 t622 bt628.1 bt628.2 true a1_0 a1_1 a1_2)))))))))) = some true := H
 by_cases c5 : t611 < 0
 ·rw [if_pos c5] at H
  have c5b0 : decide (t611 < 0) = true := decide_eq_true c5
  clear c5
  clear H
  go_enter Try.func5, Try.ntmps5
  go_wp2_with (first | ((with_reducible refine gd 4 rfl ?_); refine bx #[.int .i64 a1_0, .int .i64 a1_1, .int .i64 a1_2] 23 ?_; intro gb610 hg w6 BK610 hb; have GE610 := ngw0 hg HB; replace HB := bS0 HB hb; clear hb hg) | ((with_reducible refine gate_callee (f := 8) rfl ?_); refine gl 20 Try.func8 #[.slice A2 l2.length c2, .int .i64 1048576] ?_; (with_reducible refine (laws_szMotionS.calls _ _ _ _ _ _ ?side1 ?side2 A4.out).mono ?_); (case side1 => exact ks (Kd.C_below HR2.out HB.out)); (case side2 => exact HC2.out); rintro e w' ⟨rfl, ⟨nd, rfl⟩⟩; refine ⟨_, rfl, ?_⟩))
  go_ret
  exact er (bbw1 HB GE610)
 ·rw [if_neg c5] at H
  have c5b0 : decide (t611 < 0) = false := decide_eq_false c5
  clear c5
  obtain ⟨⟨t612, t613, t614⟩, A7, H⟩ := ob H
  replace H : ((laws_toMotionS.f k l2).bind fun t615 => ((spec_ShiftsOf.f k a0 t612 t613 t614 t615).bind fun bt618 => ((laws_toMotionS.f k l2).bind fun t622 => ((laws_toLattice.f a1_0 a1_1 a1_2).bind fun bt625 => ((impl_ShiftsOf.f k a0 bt625.1 bt625.2.1 bt625.2.2 t622).bind fun bt628 => ((laws_eqVecS.f k bt628.1 bt618.1).bind fun t632 => (if t632 = true then (laws_FnExactShiftsOf.j0 k a0 l2 bt618.1 bt618.2 t622 bt628.1 bt628.2 (bt628.2 != bt618.2) a1_0 a1_1 a1_2) else (laws_FnExactShiftsOf.j0 k a0 l2 bt618.1 bt618.2 t622 bt628.1 bt628.2 true a1_0 a1_1 a1_2)))))))) = some true := H
  obtain ⟨t615, A8, H⟩ := ob H
  replace H : ((spec_ShiftsOf.f k a0 t612 t613 t614 t615).bind fun bt618 => ((laws_toMotionS.f k l2).bind fun t622 => ((laws_toLattice.f a1_0 a1_1 a1_2).bind fun bt625 => ((impl_ShiftsOf.f k a0 bt625.1 bt625.2.1 bt625.2.2 t622).bind fun bt628 => ((laws_eqVecS.f k bt628.1 bt618.1).bind fun t632 => (if t632 = true then (laws_FnExactShiftsOf.j0 k a0 l2 bt618.1 bt618.2 t622 bt628.1 bt628.2 (bt628.2 != bt618.2) a1_0 a1_1 a1_2) else (laws_FnExactShiftsOf.j0 k a0 l2 bt618.1 bt618.2 t622 bt628.1 bt628.2 true a1_0 a1_1 a1_2))))))) = some true := H
  obtain ⟨⟨t618, t621⟩, A9, H⟩ := ob H
  replace H : ((laws_toMotionS.f k l2).bind fun t622 => ((laws_toLattice.f a1_0 a1_1 a1_2).bind fun bt625 => ((impl_ShiftsOf.f k a0 bt625.1 bt625.2.1 bt625.2.2 t622).bind fun bt628 => ((laws_eqVecS.f k bt628.1 t618).bind fun t632 => (if t632 = true then (laws_FnExactShiftsOf.j0 k a0 l2 t618 t621 t622 bt628.1 bt628.2 (bt628.2 != t621) a1_0 a1_1 a1_2) else (laws_FnExactShiftsOf.j0 k a0 l2 t618 t621 t622 bt628.1 bt628.2 true a1_0 a1_1 a1_2)))))) = some true := H
  obtain ⟨t622, A10, H⟩ := ob H
  replace H : ((laws_toLattice.f a1_0 a1_1 a1_2).bind fun bt625 => ((impl_ShiftsOf.f k a0 bt625.1 bt625.2.1 bt625.2.2 t622).bind fun bt628 => ((laws_eqVecS.f k bt628.1 t618).bind fun t632 => (if t632 = true then (laws_FnExactShiftsOf.j0 k a0 l2 t618 t621 t622 bt628.1 bt628.2 (bt628.2 != t621) a1_0 a1_1 a1_2) else (laws_FnExactShiftsOf.j0 k a0 l2 t618 t621 t622 bt628.1 bt628.2 true a1_0 a1_1 a1_2))))) = some true := H
  obtain ⟨⟨t625, t626, t627⟩, A11, H⟩ := ob H
  replace H : ((impl_ShiftsOf.f k a0 t625 t626 t627 t622).bind fun bt628 => ((laws_eqVecS.f k bt628.1 t618).bind fun t632 => (if t632 = true then (laws_FnExactShiftsOf.j0 k a0 l2 t618 t621 t622 bt628.1 bt628.2 (bt628.2 != t621) a1_0 a1_1 a1_2) else (laws_FnExactShiftsOf.j0 k a0 l2 t618 t621 t622 bt628.1 bt628.2 true a1_0 a1_1 a1_2)))) = some true := H
  obtain ⟨⟨t628, t631⟩, A12, H⟩ := ob H
  replace H : ((laws_eqVecS.f k t628 t618).bind fun t632 => (if t632 = true then (laws_FnExactShiftsOf.j0 k a0 l2 t618 t621 t622 t628 t631 (t631 != t621) a1_0 a1_1 a1_2) else (laws_FnExactShiftsOf.j0 k a0 l2 t618 t621 t622 t628 t631 true a1_0 a1_1 a1_2))) = some true := H
  have HC13 := Aside0.mk H
  clear H
  go_enter Try.func5, Try.ntmps5
  go_upto_region 8 with (first | ((with_reducible refine gd 4 rfl ?_); refine bx #[.int .i64 a1_0, .int .i64 a1_1, .int .i64 a1_2] 23 ?_; intro gb610 hg w14 BK610 hb; have GE610 := ngw0 hg HB; replace HB := bS0 HB hb; clear hb hg) | ((with_reducible refine gate_callee (f := 8) rfl ?_); refine gl 20 Try.func8 #[.slice A2 l2.length c2, .int .i64 1048576] ?_; (with_reducible refine (laws_szMotionS.calls _ _ _ _ _ _ ?side1 ?side2 A4.out).mono ?_); (case side1 => exact ks (Kd.C_below HR2.out HB.out)); (case side2 => exact HC2.out); rintro e w' ⟨rfl, ⟨nd, rfl⟩⟩; refine ⟨_, rfl, ?_⟩; have hcz15_0 : w14.cell? ⟨gb610, 0, none⟩ = some (.int .i64 a1_0) := bcl BK610 0; have hcz15_1 : w14.cell? ⟨gb610, 1, none⟩ = some (.int .i64 a1_1) := bcl BK610 1; have hcz15_2 : w14.cell? ⟨gb610, 2, none⟩ = some (.int .i64 a1_2) := bcl BK610 2; have hfz15_0 := blk_frozen BK610.out 0; have hfz15_1 := blk_frozen BK610.out 1; have hfz15_2 := blk_frozen BK610.out 2) | ((with_reducible refine gate_callee (f := 10) rfl ?_); refine gl 26 Try.func10 #[.agg #[.int .i64 a1_0, .int .i64 a1_1, .int .i64 a1_2]] ?_; (with_reducible refine (laws_toLattice.calls _ _ _ _ _ _ _ A7.out).mono ?_); rintro e w16 ⟨rfl, hb⟩; refine ⟨_, rfl, ?_⟩; replace BK610 := bB BK610 hb; replace HB := bS1 HB GE610 hb; (try clear hb)) | ((with_reducible refine gate_callee (f := 11) rfl ?_); refine gl 28 Try.func11 #[.slice A2 l2.length c2] ?_; (with_reducible refine (laws_toMotionS.calls _ _ _ _ _ _ ?side1 ?side2 A8.out).mono ?_); (case side1 => exact ks (Kd.C_below HR2.out HB.out)); (case side2 => exact HC2.out); rintro e w17 ⟨v616, rfl, ho0, hb⟩; refine ⟨_, rfl, ?_⟩; have HO617 := asd (Kd.R_lower ho0 (bsz1 HB GE610)); replace BK610 := bB BK610 hb; replace HB := bS1 HB GE610 hb; (try clear hb); (try clear hb2); (try clear hk); (try clear hi); (try clear ho0); obtain ⟨Ao18, co18, eo18⟩ := Kd.R_slice HO617.out; subst eo18) | ((with_reducible refine gate_callee (f := 16) rfl ?_); refine gl 29 Try.func16 #[.int .i64 a0, .agg #[.int .i64 t612, .int .i64 t613, .int .i64 t614], .slice Ao18 t615.length co18] ?_; (with_reducible refine (spec_ShiftsOf.calls _ _ _ _ _ _ _ _ _ _ _ ?side1 ?side2 A9.out).mono ?_); (case side1 => exact ks (Kd.R_reads' HO617.out).2.2); (case side2 => exact (Kd.R_reads' HO617.out).2.1); rintro e w19 ⟨v619, rfl, ho0, hb⟩; refine ⟨_, rfl, ?_⟩; replace HO617 := asd (Kd.R_below (kr HO617) hb); have HO620 := asd (Kd.R_lower ho0 (bsz1 HB GE610)); replace BK610 := bB BK610 hb; replace HB := bS1 HB GE610 hb; (try clear hb); (try clear hb2); (try clear hk); (try clear hi); (try clear ho0)) | ((with_reducible refine gate_callee (f := 11) rfl ?_); refine gl 33 Try.func11 #[.slice A2 l2.length c2] ?_; (with_reducible refine (laws_toMotionS.calls _ _ _ _ _ _ ?side1 ?side2 A10.out).mono ?_); (case side1 => exact ks (Kd.C_below HR2.out HB.out)); (case side2 => exact HC2.out); rintro e w20 ⟨v623, rfl, ho0, hb⟩; refine ⟨_, rfl, ?_⟩; replace HO620 := asd (Kd.R_below (kr HO620) hb); have HO624 := asd (Kd.R_lower (Kd.R_new' ho0 (Kd.R_lt (kr HO617))) (bsz1 HB GE610)); replace HO617 := asd (Kd.R_elder' (kr HO617) (Kd.R_base ho0) hb); replace BK610 := bB BK610 hb; replace HB := bS1 HB GE610 hb; (try clear hb); (try clear hb2); (try clear hk); (try clear hi); (try clear ho0); obtain ⟨hcz21_0, hcz21_1, hcz21_2, hfz21_0, hfz21_1, hfz21_2⟩ := bz3 BK610) | ((with_reducible refine gate_callee (f := 10) rfl ?_); refine gl 37 Try.func10 #[.agg #[.int .i64 a1_0, .int .i64 a1_1, .int .i64 a1_2]] ?_; (with_reducible refine (laws_toLattice.calls _ _ _ _ _ _ _ A11.out).mono ?_); rintro e w22 ⟨rfl, hb⟩; refine ⟨_, rfl, ?_⟩; replace HO617 := asd (Kd.R_below (kr HO617) hb); replace HO620 := asd (Kd.R_below (kr HO620) hb); replace HO624 := asd (Kd.R_below (kr HO624) hb); replace BK610 := bB BK610 hb; replace HB := bS1 HB GE610 hb; (try clear hb); obtain ⟨Ao23, co23, eo23⟩ := Kd.R_slice HO624.out; subst eo23) | ((with_reducible refine gate_callee (f := 17) rfl ?_); refine gl 39 Try.func17 #[.int .i64 a0, .agg #[.int .i64 t625, .int .i64 t626, .int .i64 t627], .slice Ao23 t622.length co23] ?_; (with_reducible refine (impl_ShiftsOf.calls _ _ _ _ _ (fun k_ => some k_ = (.slice Ao23 t622.length co23 : Value).ownBlock) _ _ _ _ _ _ ?side1 A12.out).mono ?_); (case side1 => exact Kd.R_V (Kd.R_tight rfl (Kd.R_types (Kd.R_apart' (HO624.out) (Kd.R_typed HO620.out) (by decide)) BK610.out (by decide)))); rintro e w24 ⟨v629, rfl, ho0, hb⟩; refine ⟨_, rfl, ?_⟩; replace HO617 := asd (Kd.R_below (kr HO617) hb); replace HO624 := asd (Kd.R_below (kr HO624) hb); have HO630 := asd (Kd.R_lower (Kd.R_new' (Kd.R_mono (ok' := fun k_ => True) ho0 (fun _ hk_ => trivial)) (Kd.R_lt (kr HO620))) (bsz1 HB GE610)); replace HO620 := asd (Kd.R_elder' (kr HO620) (Kd.R_base ho0) hb); replace BK610 := bB BK610 hb; replace HB := bS1 HB GE610 hb; (try clear hb); (try clear hb2); (try clear hk); (try clear hi); (try clear ho0)))
  (try simp only [Act.put, sA, sB, sC])
  go_cut [50] (fun v50 wc => ∃ (kq : Nat) (x50_12 : Bool), v50 = .bool x50_12 ∧ Aside0 (laws_FnExactShiftsOf.j0 kq a0 l2 t618 t621 t622 t628 t631 x50_12 a1_0 a1_1 a1_2 = some true) ∧ Aside0 (kq ≤ k) ∧ Aside0 (Kd.R k53 53 wc w.heap.size (fun k_ => some k_ ≠ (v629 : Value).ownBlock) v619 t618) ∧ Aside0 (Kd.R k55 55 wc w.heap.size (fun _ => True) (.slice Ao23 t622.length co23) t622) ∧ Aside0 (Kd.R k53 53 wc w.heap.size (fun k_ => some k_ ≠ (v619 : Value).ownBlock) v629 t628) ∧ Aside0 (wc.heap[gb610]? = some (.cells #[.int .i64 a1_0, .int .i64 a1_1, .int .i64 a1_2] 23 (0, 0))) ∧ Aside0 (Below w.heap.size w wc))
  case first =>
   have H := HC13.out
   clear HC13
   obtain ⟨t632, A25, H⟩ := ob H
   replace H : (if t632 = true then (laws_FnExactShiftsOf.j0 k a0 l2 t618 t621 t622 t628 t631 (t631 != t621) a1_0 a1_1 a1_2) else (laws_FnExactShiftsOf.j0 k a0 l2 t618 t621 t622 t628 t631 true a1_0 a1_1 a1_2)) = some true := H
   by_cases c26 : t632 = true
   ·subst c26
    have H1 : (laws_FnExactShiftsOf.j0 k a0 l2 t618 t621 t622 t628 t631 (t631 != t621) a1_0 a1_1 a1_2) = some true := by rw [if_pos rfl] at H; first | done | exact H
    clear H
    have H := H1
    clear H1
    have H' := Aside0.mk H
    clear H
    obtain ⟨Ao27, co27, eo27⟩ := Kd.R_slice HO630.out
    subst eo27
    obtain ⟨Ao28, co28, eo28⟩ := Kd.R_slice HO620.out
    subst eo28
    go_wp2_with (first | ((with_reducible refine gate_callee (f := 18) rfl ?_); refine gl 44 Try.func18 #[.slice Ao27 t628.length co27, .slice Ao28 t618.length co28] ?_; (with_reducible refine (laws_eqVecS.calls _ _ _ _ _ _ _ _ _ ?side1 ?side2 ?side3 ?side4 A25.out).mono ?_); (case side1 => exact ks (Kd.R_reads' HO630.out).2.2); (case side2 => exact (Kd.R_reads' HO630.out).2.1); (case side3 => exact ks (Kd.R_reads' HO620.out).2.2); (case side4 => exact (Kd.R_reads' HO620.out).2.1); rintro e w29 ⟨rfl, hb⟩; refine ⟨_, rfl, ?_⟩; replace HO617 := asd (Kd.R_below (kr HO617) hb); replace HO620 := asd (Kd.R_below (kr HO620) hb); replace HO624 := asd (Kd.R_below (kr HO624) hb); replace HO630 := asd (Kd.R_below (kr HO630) hb); replace BK610 := bB BK610 hb; replace HB := bS1 HB GE610 hb; (try clear hb)))
    go_meet
    case rel => exact ⟨_, ((t631 != t621)), (by first | rfl | (simp; done) | (simp [*]; done)), H', ⟨by first | omega | exact Nat.le_refl _⟩, ⟨by (with_reducible repeat (first | apply Kd.R_alloc | apply Kd.R_drewN | apply Kd.R_drew)); exact Kd.R_mono HO620.out (fun _ hk => hk.2)⟩, ⟨by (with_reducible repeat (first | apply Kd.R_alloc | apply Kd.R_drewN | apply Kd.R_drew)); exact Kd.R_mono HO624.out (fun _ hk => trivial)⟩, ⟨by (with_reducible repeat (first | apply Kd.R_alloc | apply Kd.R_drewN | apply Kd.R_drew)); exact Kd.R_mono HO630.out (fun _ hk => hk.2)⟩, ⟨bkp BK610⟩, ⟨bbw1 HB GE610⟩⟩
   ·replace c26 := Bool.eq_false_iff.mpr c26
    subst c26
    have H1 : (laws_FnExactShiftsOf.j0 k a0 l2 t618 t621 t622 t628 t631 true a1_0 a1_1 a1_2) = some true := by rw [if_neg (show ¬ (false = true) by decide)] at H; first | done | exact H
    clear H
    have H := H1
    clear H1
    have H' := Aside0.mk H
    clear H
    obtain ⟨Ao30, co30, eo30⟩ := Kd.R_slice HO630.out
    subst eo30
    obtain ⟨Ao31, co31, eo31⟩ := Kd.R_slice HO620.out
    subst eo31
    go_wp2_with (first | ((with_reducible refine gate_callee (f := 18) rfl ?_); refine gl 44 Try.func18 #[.slice Ao30 t628.length co30, .slice Ao31 t618.length co31] ?_; (with_reducible refine (laws_eqVecS.calls _ _ _ _ _ _ _ _ _ ?side1 ?side2 ?side3 ?side4 A25.out).mono ?_); (case side1 => exact ks (Kd.R_reads' HO630.out).2.2); (case side2 => exact (Kd.R_reads' HO630.out).2.1); (case side3 => exact ks (Kd.R_reads' HO620.out).2.2); (case side4 => exact (Kd.R_reads' HO620.out).2.1); rintro e w32 ⟨rfl, hb⟩; refine ⟨_, rfl, ?_⟩; replace HO617 := asd (Kd.R_below (kr HO617) hb); replace HO620 := asd (Kd.R_below (kr HO620) hb); replace HO624 := asd (Kd.R_below (kr HO624) hb); replace HO630 := asd (Kd.R_below (kr HO630) hb); replace BK610 := bB BK610 hb; replace HB := bS1 HB GE610 hb; (try clear hb)))
    go_meet
    case rel => exact ⟨_, (true), (by first | rfl | (simp; done) | (simp [*]; done)), H', ⟨by first | omega | exact Nat.le_refl _⟩, ⟨by (with_reducible repeat (first | apply Kd.R_alloc | apply Kd.R_drewN | apply Kd.R_drew)); exact Kd.R_mono HO620.out (fun _ hk => hk.2)⟩, ⟨by (with_reducible repeat (first | apply Kd.R_alloc | apply Kd.R_drewN | apply Kd.R_drew)); exact Kd.R_mono HO624.out (fun _ hk => trivial)⟩, ⟨by (with_reducible repeat (first | apply Kd.R_alloc | apply Kd.R_drewN | apply Kd.R_drew)); exact Kd.R_mono HO630.out (fun _ hk => hk.2)⟩, ⟨bkp BK610⟩, ⟨bbw1 HB GE610⟩⟩
  case rest =>
   clear HC13
   try clear c1
   try clear c2
   try clear p2
   try clear c5
   try clear c5b0
   try clear c8
   try clear c10
   try clear c11
   try clear c16
   try clear c17
   try clear c18
   try clear c26
   try clear hcz15_0
   try clear hcz15_1
   try clear hcz15_2
   try clear hcz21_0
   try clear hcz21_1
   try clear hcz21_2
   try clear hfz15_0
   try clear hfz15_1
   try clear hfz15_2
   try clear hfz21_0
   try clear hfz21_1
   try clear hfz21_2
   obtain ⟨kq, x50_12, rfl, HA, HJ12, HO_8, HO_10, HO_11, BK610, HB⟩ := hcut
   cases kq with
   | zero => exact absurd HA.out (by simp [laws_FnExactShiftsOf.j0])
   | succ kj12 =>
    have H := HA.out
    clear HA
    simp only [laws_FnExactShiftsOf.j0] at H
    by_cases c33 : x50_12 = true
    ·subst c33
     have H1 : (some false) = some true := by rw [if_pos rfl] at H; first | done | exact H
     clear H
     have H := H1
     clear H1
     exact absurd H (by simp)
    ·replace c33 := Bool.eq_false_iff.mpr c33
     subst c33
     have H1 : ((laws_toMotionS.f kj12 l2).bind fun t633 => ((laws_eqMotionS.f kj12 t622 t633).bind fun t636 => (if t636 = true then ((laws_markMotionS.f kj12 t622 1).bind fun bt637 => (if bt637.1 < 0 then (laws_FnExactShiftsOf.j1 kj12 a0 l2 t618 t621 t628 true a1_0 a1_1 a1_2) else ((laws_eqVecS.f kj12 t628 t618).bind fun t639 => (if t639 = true then (laws_FnExactShiftsOf.j1 kj12 a0 l2 t618 t621 t628 (t631 != t621) a1_0 a1_1 a1_2) else (laws_FnExactShiftsOf.j1 kj12 a0 l2 t618 t621 t628 true a1_0 a1_1 a1_2))))) else (some false)))) = some true := by rw [if_neg (show ¬ (false = true) by decide)] at H; first | done | exact H
     clear H
     have H := H1
     clear H1
     obtain ⟨t633, A34, H⟩ := ob H
     replace H : ((laws_eqMotionS.f kj12 t622 t633).bind fun t636 => (if t636 = true then ((laws_markMotionS.f kj12 t622 1).bind fun bt637 => (if bt637.1 < 0 then (laws_FnExactShiftsOf.j1 kj12 a0 l2 t618 t621 t628 true a1_0 a1_1 a1_2) else ((laws_eqVecS.f kj12 t628 t618).bind fun t639 => (if t639 = true then (laws_FnExactShiftsOf.j1 kj12 a0 l2 t618 t621 t628 (t631 != t621) a1_0 a1_1 a1_2) else (laws_FnExactShiftsOf.j1 kj12 a0 l2 t618 t621 t628 true a1_0 a1_1 a1_2))))) else (some false))) = some true := H
     obtain ⟨t636, A35, H⟩ := ob H
     replace H : (if t636 = true then ((laws_markMotionS.f kj12 t622 1).bind fun bt637 => (if bt637.1 < 0 then (laws_FnExactShiftsOf.j1 kj12 a0 l2 t618 t621 t628 true a1_0 a1_1 a1_2) else ((laws_eqVecS.f kj12 t628 t618).bind fun t639 => (if t639 = true then (laws_FnExactShiftsOf.j1 kj12 a0 l2 t618 t621 t628 (t631 != t621) a1_0 a1_1 a1_2) else (laws_FnExactShiftsOf.j1 kj12 a0 l2 t618 t621 t628 true a1_0 a1_1 a1_2))))) else (some false)) = some true := H
     by_cases c36 : t636 = true
     ·subst c36
      have H1 : ((laws_markMotionS.f kj12 t622 1).bind fun bt637 => (if bt637.1 < 0 then (laws_FnExactShiftsOf.j1 kj12 a0 l2 t618 t621 t628 true a1_0 a1_1 a1_2) else ((laws_eqVecS.f kj12 t628 t618).bind fun t639 => (if t639 = true then (laws_FnExactShiftsOf.j1 kj12 a0 l2 t618 t621 t628 (t631 != t621) a1_0 a1_1 a1_2) else (laws_FnExactShiftsOf.j1 kj12 a0 l2 t618 t621 t628 true a1_0 a1_1 a1_2))))) = some true := by rw [if_pos rfl] at H; first | done | exact H
      clear H
      have H := H1
      clear H1
      obtain ⟨⟨t637, t638⟩, A37, H⟩ := ob H
      replace H : (if t637 < 0 then (laws_FnExactShiftsOf.j1 kj12 a0 l2 t618 t621 t628 true a1_0 a1_1 a1_2) else ((laws_eqVecS.f kj12 t628 t618).bind fun t639 => (if t639 = true then (laws_FnExactShiftsOf.j1 kj12 a0 l2 t618 t621 t628 (t631 != t621) a1_0 a1_1 a1_2) else (laws_FnExactShiftsOf.j1 kj12 a0 l2 t618 t621 t628 true a1_0 a1_1 a1_2)))) = some true := H
      have HC38 := Aside0.mk H
      clear H
      go_upto_region 14 with (first | ((with_reducible refine gate_callee (f := 11) rfl ?_); refine gl 53 Try.func11 #[.slice A2 l2.length c2] ?_; (with_reducible refine (laws_toMotionS.calls _ _ _ _ _ _ ?side1 ?side2 A34.out).mono ?_); (case side1 => exact ks (Kd.C_below HR2.out HB.out)); (case side2 => exact HC2.out); rintro e w39 ⟨v634, rfl, ho0, hb⟩; refine ⟨_, rfl, ?_⟩; replace HO_8 := asd (Kd.R_below (kr HO_8) hb); replace HO_11 := asd (Kd.R_below (kr HO_11) hb); have HO635 := asd (Kd.R_lower (Kd.R_new' ho0 (Kd.R_lt (kr HO_10))) (bsz1 HB GE610)); replace HO_10 := asd (Kd.R_elder' (kr HO_10) (Kd.R_base ho0) hb); replace BK610 := bB BK610 hb; replace HB := bS1 HB GE610 hb; (try clear hb); (try clear hb2); (try clear hk); (try clear hi); (try clear ho0); obtain ⟨Ao40, co40, eo40⟩ := Kd.R_slice HO635.out; subst eo40) | ((with_reducible refine gate_callee (f := 13) rfl ?_); refine gl 54 Try.func13 #[.slice Ao23 t622.length co23, .slice Ao40 t633.length co40] ?_; (with_reducible refine (laws_eqMotionS.calls _ _ _ _ _ _ _ _ _ ?side1 ?side2 ?side3 ?side4 A35.out).mono ?_); (case side1 => exact ks (Kd.R_reads' HO_10.out).2.2); (case side2 => exact (Kd.R_reads' HO_10.out).2.1); (case side3 => exact ks (Kd.R_reads' HO635.out).2.2); (case side4 => exact (Kd.R_reads' HO635.out).2.1); rintro e w41 ⟨rfl, hb⟩; refine ⟨_, rfl, ?_⟩; replace HO_8 := asd (Kd.R_below (kr HO_8) hb); replace HO_10 := asd (Kd.R_below (kr HO_10) hb); replace HO_11 := asd (Kd.R_below (kr HO_11) hb); replace HO635 := asd (Kd.R_below (kr HO635) hb); replace BK610 := bB BK610 hb; replace HB := bS1 HB GE610 hb; (try clear hb)) | ((with_reducible refine gate_callee (f := 19) rfl ?_); refine gl 58 Try.func19 #[.slice Ao23 t622.length co23, .int .i64 1] ?_; (with_reducible refine (laws_markMotionS.calls _ (fun k_ => some k_ = (.slice Ao23 t622.length co23 : Value).ownBlock) _ _ _ _ _ w _ ?side1 ?side2 A37.out).mono ?_); (case side1 => repeat (first | (with_reducible first | exact HB.out | apply below_alloc | apply pw_below_drewN | apply below_drew1 | refine below_set ?_ GE610.out) | exact HB.out)); (case side2 => exact Kd.R_tight rfl HO_10.out); rintro e w42 ⟨rfl, hy0, hb, hkp⟩; refine ⟨_, rfl, ?_⟩; replace HO_8 := asd (Kd.R_mono (ok' := fun k_ => some k_ ≠ (v629 : Value).ownBlock) (Kd.R_keptB ((Kd.R_apart' HO_8.out (Kd.R_typed HO_10.out) (by decide))) hkp (fun k_ hk_ hs_ => (hk_.2) hs_)) (fun k_ hk_ => hk_.1.1)); replace HO_11 := asd (Kd.R_mono (ok' := fun k_ => some k_ ≠ (v619 : Value).ownBlock) (Kd.R_keptB ((Kd.R_apart' HO_11.out (Kd.R_typed HO_10.out) (by decide))) hkp (fun k_ hk_ hs_ => (hk_.2) hs_)) (fun k_ hk_ => hk_.1.1)); replace BK610 := asd (blk_kept (bkp BK610) hkp (fun hs_ => (fun e_ => (Kd.R_ne HO_10.out BK610.out (by decide)) e_) hs_)); replace HO_10 := asd (Kd.R_reok rfl hy0 (fun k_ e_ => HO_10.out.1 k_ e_)); replace HO635 := asd (Kd.R_mono (ok' := fun k_ => some k_ ≠ (.slice Ao23 t622.length co23 : Value).ownBlock) (Kd.R_keptB (HO635.out) hkp (fun k_ hk_ hs_ => (hk_.2) hs_)) (fun k_ hk_ => hk_.1.2)); replace HB := asd (hb); (try clear hb); (try clear hkp); (try clear hy0)))
      (try simp only [Act.put, sA, sB, sC])
      go_cut [71] (fun v71 wc => ∃ (kq : Nat) (x71_37 : Bool), v71 = .bool x71_37 ∧ Aside0 (laws_FnExactShiftsOf.j1 kq a0 l2 t618 t621 t628 x71_37 a1_0 a1_1 a1_2 = some true) ∧ Aside0 (kq ≤ kj12) ∧ Aside0 (Kd.R k53 53 wc w.heap.size (fun k_ => some k_ ≠ (v629 : Value).ownBlock) v619 t618) ∧ Aside0 (Kd.R k53 53 wc w.heap.size (fun k_ => some k_ ≠ (v619 : Value).ownBlock) v629 t628) ∧ Aside0 (wc.heap[gb610]? = some (.cells #[.int .i64 a1_0, .int .i64 a1_1, .int .i64 a1_2] 23 (0, 0))) ∧ Aside0 (Below w.heap.size w wc))
      case first =>
       have H := HC38.out
       clear HC38
       by_cases c43 : t637 < 0
       ·rw [if_pos c43] at H
        have c43b0 : decide (t637 < 0) = true := decide_eq_true c43
        clear c43
        (first | rw [c43b0] | (simp only [i64_w, i32_w]; rw [c43b0]) | skip)
        have H' := Aside0.mk H
        clear H
        go_wp2
        go_meet
        case rel => exact ⟨_, (true), (by first | rfl | (simp; done) | (simp [*]; done)), H', ⟨by have := HJ12.out; first | omega | exact Nat.le_refl _⟩, ⟨by (with_reducible repeat (first | apply Kd.R_alloc | apply Kd.R_drewN | apply Kd.R_drew)); exact HO_8.out⟩, ⟨by (with_reducible repeat (first | apply Kd.R_alloc | apply Kd.R_drewN | apply Kd.R_drew)); exact HO_11.out⟩, ⟨bkp BK610⟩, ⟨bbw1 HB GE610⟩⟩
       ·rw [if_neg c43] at H
        have c43b0 : decide (t637 < 0) = false := decide_eq_false c43
        clear c43
        (first | rw [c43b0] | (simp only [i64_w, i32_w]; rw [c43b0]) | skip)
        obtain ⟨t639, A44, H⟩ := ob H
        replace H : (if t639 = true then (laws_FnExactShiftsOf.j1 kj12 a0 l2 t618 t621 t628 (t631 != t621) a1_0 a1_1 a1_2) else (laws_FnExactShiftsOf.j1 kj12 a0 l2 t618 t621 t628 true a1_0 a1_1 a1_2)) = some true := H
        by_cases c45 : t639 = true
        ·subst c45
         have H1 : (laws_FnExactShiftsOf.j1 kj12 a0 l2 t618 t621 t628 (t631 != t621) a1_0 a1_1 a1_2) = some true := by rw [if_pos rfl] at H; first | done | exact H
         clear H
         have H := H1
         clear H1
         have H' := Aside0.mk H
         clear H
         obtain ⟨Ao46, co46, eo46⟩ := Kd.R_slice HO_11.out
         subst eo46
         obtain ⟨Ao47, co47, eo47⟩ := Kd.R_slice HO_8.out
         subst eo47
         go_wp2_with (first | (go_at_call 18; (with_reducible refine (laws_eqVecS.calls _ _ _ _ _ _ _ _ _ ?side1 ?side2 ?side3 ?side4 A44.out).mono ?_); (case side1 => exact ks (Kd.R_reads' HO_11.out).2.2); (case side2 => exact (Kd.R_reads' HO_11.out).2.1); (case side3 => exact ks (Kd.R_reads' HO_8.out).2.2); (case side4 => exact (Kd.R_reads' HO_8.out).2.1); rintro e w48 ⟨rfl, hb⟩; replace HO_8 := asd (Kd.R_below (kr HO_8) hb); replace HO_10 := asd (Kd.R_below (kr HO_10) hb); replace HO_11 := asd (Kd.R_below (kr HO_11) hb); replace HO635 := asd (Kd.R_below (kr HO635) hb); replace BK610 := bB BK610 hb; replace HB := bS1 HB GE610 hb; (try clear hb)))
         go_meet
         case rel => exact ⟨_, ((t631 != t621)), (by first | rfl | (simp; done) | (simp [*]; done)), H', ⟨by have := HJ12.out; first | omega | exact Nat.le_refl _⟩, ⟨by (with_reducible repeat (first | apply Kd.R_alloc | apply Kd.R_drewN | apply Kd.R_drew)); exact HO_8.out⟩, ⟨by (with_reducible repeat (first | apply Kd.R_alloc | apply Kd.R_drewN | apply Kd.R_drew)); exact HO_11.out⟩, ⟨bkp BK610⟩, ⟨bbw1 HB GE610⟩⟩
        ·replace c45 := Bool.eq_false_iff.mpr c45
         subst c45
         have H1 : (laws_FnExactShiftsOf.j1 kj12 a0 l2 t618 t621 t628 true a1_0 a1_1 a1_2) = some true := by rw [if_neg (show ¬ (false = true) by decide)] at H; first | done | exact H
         clear H
         have H := H1
         clear H1
         have H' := Aside0.mk H
         clear H
         obtain ⟨Ao49, co49, eo49⟩ := Kd.R_slice HO_11.out
         subst eo49
         obtain ⟨Ao50, co50, eo50⟩ := Kd.R_slice HO_8.out
         subst eo50
         go_wp2_with (first | (go_at_call 18; (with_reducible refine (laws_eqVecS.calls _ _ _ _ _ _ _ _ _ ?side1 ?side2 ?side3 ?side4 A44.out).mono ?_); (case side1 => exact ks (Kd.R_reads' HO_11.out).2.2); (case side2 => exact (Kd.R_reads' HO_11.out).2.1); (case side3 => exact ks (Kd.R_reads' HO_8.out).2.2); (case side4 => exact (Kd.R_reads' HO_8.out).2.1); rintro e w51 ⟨rfl, hb⟩; replace HO_8 := asd (Kd.R_below (kr HO_8) hb); replace HO_10 := asd (Kd.R_below (kr HO_10) hb); replace HO_11 := asd (Kd.R_below (kr HO_11) hb); replace HO635 := asd (Kd.R_below (kr HO635) hb); replace BK610 := bB BK610 hb; replace HB := bS1 HB GE610 hb; (try clear hb)))
         go_meet
         case rel => exact ⟨_, (true), (by first | rfl | (simp; done) | (simp [*]; done)), H', ⟨by have := HJ12.out; first | omega | exact Nat.le_refl _⟩, ⟨by (with_reducible repeat (first | apply Kd.R_alloc | apply Kd.R_drewN | apply Kd.R_drew)); exact HO_8.out⟩, ⟨by (with_reducible repeat (first | apply Kd.R_alloc | apply Kd.R_drewN | apply Kd.R_drew)); exact HO_11.out⟩, ⟨bkp BK610⟩, ⟨bbw1 HB GE610⟩⟩
      case rest =>
       clear HC38
       try clear c1
       try clear c2
       try clear p2
       try clear c3
       try clear c4
       try clear c5
       try clear c5b0
       try clear c8
       try clear c10
       try clear c11
       try clear c13
       try clear c16
       try clear c17
       try clear c18
       try clear c19
       try clear c26
       try clear c33
       try clear c36
       try clear c43
       try clear c43b0
       try clear c45
       try clear hcz15_0
       try clear hcz15_1
       try clear hcz15_2
       try clear hcz21_0
       try clear hcz21_1
       try clear hcz21_2
       try clear hfz15_0
       try clear hfz15_1
       try clear hfz15_2
       try clear hfz21_0
       try clear hfz21_1
       try clear hfz21_2
       try clear p2
       obtain ⟨kq, x71_37, rfl, HA, HJ37, HO_8, HO_11, BK610, HB⟩ := hcut
       cases kq with
       | zero => exact absurd HA.out (by simp [laws_FnExactShiftsOf.j1])
       | succ kj37 =>
        have H := HA.out
        clear HA
        simp only [laws_FnExactShiftsOf.j1] at H
        by_cases c52 : x71_37 = true
        ·subst c52
         have H1 : (some false) = some true := by rw [if_pos rfl] at H; first | done | exact H
         clear H
         have H := H1
         clear H1
         exact absurd H (by simp)
        ·replace c52 := Bool.eq_false_iff.mpr c52
         subst c52
         have H1 : ((laws_markVecS.f kj37 t628 1).bind fun bt640 => ((laws_heldVecS.f kj37 bt640.2 1).bind fun t642 => (if t642 < 0 then (some false) else (if t642 = bt640.1 then ((laws_toLattice.f a1_0 a1_1 a1_2).bind fun bt643 => ((laws_toMotionS.f kj37 l2).bind fun t646 => ((impl_ShiftsOf.f kj37 a0 bt643.1 bt643.2.1 bt643.2.2 t646).bind fun bt649 => ((laws_eqVecS.f kj37 bt649.1 t618).bind fun t653 => (if t653 = true then (laws_FnExactShiftsOf.j2 kj37 bt640.2 bt640.1 (bt649.2 != t621)) else (laws_FnExactShiftsOf.j2 kj37 bt640.2 bt640.1 true)))))) else (some false))))) = some true := by rw [if_neg (show ¬ (false = true) by decide)] at H; first | done | exact H
         clear H
         have H := H1
         clear H1
         obtain ⟨⟨t640, t641⟩, A53, H⟩ := ob H
         replace H : ((laws_heldVecS.f kj37 t641 1).bind fun t642 => (if t642 < 0 then (some false) else (if t642 = t640 then ((laws_toLattice.f a1_0 a1_1 a1_2).bind fun bt643 => ((laws_toMotionS.f kj37 l2).bind fun t646 => ((impl_ShiftsOf.f kj37 a0 bt643.1 bt643.2.1 bt643.2.2 t646).bind fun bt649 => ((laws_eqVecS.f kj37 bt649.1 t618).bind fun t653 => (if t653 = true then (laws_FnExactShiftsOf.j2 kj37 t641 t640 (bt649.2 != t621)) else (laws_FnExactShiftsOf.j2 kj37 t641 t640 true)))))) else (some false)))) = some true := H
         obtain ⟨t642, A54, H⟩ := ob H
         replace H : (if t642 < 0 then (some false) else (if t642 = t640 then ((laws_toLattice.f a1_0 a1_1 a1_2).bind fun bt643 => ((laws_toMotionS.f kj37 l2).bind fun t646 => ((impl_ShiftsOf.f kj37 a0 bt643.1 bt643.2.1 bt643.2.2 t646).bind fun bt649 => ((laws_eqVecS.f kj37 bt649.1 t618).bind fun t653 => (if t653 = true then (laws_FnExactShiftsOf.j2 kj37 t641 t640 (bt649.2 != t621)) else (laws_FnExactShiftsOf.j2 kj37 t641 t640 true)))))) else (some false))) = some true := H
         by_cases c55 : t642 < 0
         ·rw [if_pos c55] at H
          have c55b0 : decide (t642 < 0) = true := decide_eq_true c55
          clear c55
          exact absurd H (by simp)
         ·rw [if_neg c55] at H
          have c55b0 : decide (t642 < 0) = false := decide_eq_false c55
          clear c55
          by_cases c56 : t642 = t640
          ·rw [if_pos c56] at H
           have c56b0 : (t642 == t640) = true := beq_iff_eq.mpr c56
           have c56b1 : (t642 != t640) = false := bne_eq_false_iff_eq.mpr c56
           clear c56
           obtain ⟨⟨t643, t644, t645⟩, A57, H⟩ := ob H
           replace H : ((laws_toMotionS.f kj37 l2).bind fun t646 => ((impl_ShiftsOf.f kj37 a0 t643 t644 t645 t646).bind fun bt649 => ((laws_eqVecS.f kj37 bt649.1 t618).bind fun t653 => (if t653 = true then (laws_FnExactShiftsOf.j2 kj37 t641 t640 (bt649.2 != t621)) else (laws_FnExactShiftsOf.j2 kj37 t641 t640 true))))) = some true := H
           obtain ⟨t646, A58, H⟩ := ob H
           replace H : ((impl_ShiftsOf.f kj37 a0 t643 t644 t645 t646).bind fun bt649 => ((laws_eqVecS.f kj37 bt649.1 t618).bind fun t653 => (if t653 = true then (laws_FnExactShiftsOf.j2 kj37 t641 t640 (bt649.2 != t621)) else (laws_FnExactShiftsOf.j2 kj37 t641 t640 true)))) = some true := H
           obtain ⟨⟨t649, t652⟩, A59, H⟩ := ob H
           replace H : ((laws_eqVecS.f kj37 t649 t618).bind fun t653 => (if t653 = true then (laws_FnExactShiftsOf.j2 kj37 t641 t640 (t652 != t621)) else (laws_FnExactShiftsOf.j2 kj37 t641 t640 true))) = some true := H
           have HC60 := Aside0.mk H
           clear H
           obtain ⟨Ao61, co61, eo61⟩ := Kd.R_slice HO_11.out
           subst eo61
           go_upto_region 25 with (first | ((with_reducible refine gate_callee (f := 20) rfl ?_); refine gl 74 Try.func20 #[.slice Ao61 t628.length co61, .int .i64 1] ?_; (with_reducible refine (laws_markVecS.calls _ (fun k_ => some k_ = (.slice Ao61 t628.length co61 : Value).ownBlock) _ _ _ _ _ w _ ?side1 ?side2 A53.out).mono ?_); (case side1 => repeat (first | (with_reducible first | exact HB.out | apply below_alloc | apply pw_below_drewN | apply below_drew1 | refine below_set ?_ GE610.out) | exact HB.out)); (case side2 => exact Kd.R_tight rfl HO_11.out); rintro e w62 ⟨rfl, hy0, hb, hkp⟩; refine ⟨_, rfl, ?_⟩; replace HO_8 := asd (Kd.R_mono (ok' := fun k_ => some k_ ≠ (.slice Ao61 t628.length co61 : Value).ownBlock) (Kd.R_keptB (HO_8.out) hkp (fun k_ hk_ hs_ => (hk_) hs_)) (fun k_ hk_ => hk_.1)); replace BK610 := asd (blk_kept (bkp BK610) hkp (fun hs_ => (fun e_ => (Kd.R_ne HO_11.out BK610.out (by decide)) e_) hs_)); replace HO_11 := asd (Kd.R_reok rfl hy0 (fun k_ e_ => HO_11.out.1 k_ e_)); replace HB := asd (hb); (try clear hb); (try clear hkp); (try clear hy0)) | ((with_reducible refine gate_callee (f := 21) rfl ?_); refine goesL_ (some 77) rfl rfl Try.func21 (by kernel_rfl) rfl #[.slice Ao61 t641.length co61, .int .i64 1] rfl (by (try simp only [List.map_toArray, List.map_cons, List.map_nil]); first | done | (rw [show t641.length = t628.length from (Kd.R_reads' HO_11.out).1.symm] <;> rfl) | rfl | (simp only [List.length_drop, List.length_take]; rfl)) ?_; (with_reducible refine (laws_heldVecS.calls _ _ _ _ _ _ _ ?side1 ?side2 A54.out).mono ?_); (case side1 => exact ks (Kd.R_reads' HO_11.out).2.2); (case side2 => rw [show t641.length = t628.length from (Kd.R_reads' HO_11.out).1.symm]; exact (Kd.R_reads' HO_11.out).2.1); rintro e w' ⟨rfl, ⟨nd, rfl⟩⟩; refine ⟨_, rfl, ?_⟩; have hcz63_0 : w62.cell? ⟨gb610, 0, none⟩ = some (.int .i64 a1_0) := bcl BK610 0; have hcz63_1 : w62.cell? ⟨gb610, 1, none⟩ = some (.int .i64 a1_1) := bcl BK610 1; have hcz63_2 : w62.cell? ⟨gb610, 2, none⟩ = some (.int .i64 a1_2) := bcl BK610 2; have hfz63_0 := blk_frozen BK610.out 0; have hfz63_1 := blk_frozen BK610.out 1; have hfz63_2 := blk_frozen BK610.out 2) | ((with_reducible refine gate_callee (f := 10) rfl ?_); refine gl 86 Try.func10 #[.agg #[.int .i64 a1_0, .int .i64 a1_1, .int .i64 a1_2]] ?_; (with_reducible refine (laws_toLattice.calls _ _ _ _ _ _ _ A57.out).mono ?_); rintro e w64 ⟨rfl, hb⟩; refine ⟨_, rfl, ?_⟩; replace HO_8 := asd (Kd.R_below (kr HO_8) hb); replace HO_11 := asd (Kd.R_below (kr HO_11) hb); replace BK610 := bB BK610 hb; replace HB := bS1 HB GE610 hb; (try clear hb)) | ((with_reducible refine gate_callee (f := 11) rfl ?_); refine gl 88 Try.func11 #[.slice A2 l2.length c2] ?_; (with_reducible refine (laws_toMotionS.calls _ _ _ _ _ _ ?side1 ?side2 A58.out).mono ?_); (case side1 => exact ks (Kd.C_below HR2.out HB.out)); (case side2 => exact HC2.out); rintro e w65 ⟨v647, rfl, ho0, hb⟩; refine ⟨_, rfl, ?_⟩; replace HO_8 := asd (Kd.R_below (kr HO_8) hb); replace HO_11 := asd (Kd.R_below (kr HO_11) hb); have HO648 := asd (Kd.R_lower ho0 (bsz1 HB GE610)); replace BK610 := bB BK610 hb; replace HB := bS1 HB GE610 hb; (try clear hb); (try clear hb2); (try clear hk); (try clear hi); (try clear ho0); obtain ⟨Ao66, co66, eo66⟩ := Kd.R_slice HO648.out; subst eo66) | ((with_reducible refine gate_callee (f := 17) rfl ?_); refine gl 89 Try.func17 #[.int .i64 a0, .agg #[.int .i64 t643, .int .i64 t644, .int .i64 t645], .slice Ao66 t646.length co66] ?_; (with_reducible refine (impl_ShiftsOf.calls _ _ _ _ _ (fun k_ => some k_ = (.slice Ao66 t646.length co66 : Value).ownBlock) _ _ _ _ _ _ ?side1 A59.out).mono ?_); (case side1 => exact Kd.R_V (Kd.R_tight rfl (Kd.R_types (Kd.R_apart' (Kd.R_apart' (HO648.out) (Kd.R_typed HO_8.out) (by decide)) (Kd.R_typed HO_11.out) (by decide)) BK610.out (by decide)))); rintro e w67 ⟨v650, rfl, ho0, hb⟩; refine ⟨_, rfl, ?_⟩; replace HO648 := asd (Kd.R_below (kr HO648) hb); have HO651 := asd (Kd.R_lower (Kd.R_new' (Kd.R_new' (Kd.R_mono (ok' := fun k_ => True) ho0 (fun _ hk_ => trivial)) (Kd.R_lt (kr HO_8))) (Kd.R_lt (kr HO_11))) (bsz1 HB GE610)); replace HO_8 := asd (Kd.R_elder' (kr HO_8) (Kd.R_base ho0) hb); replace HO_11 := asd (Kd.R_elder' (kr HO_11) (Kd.R_base ho0) hb); replace BK610 := bB BK610 hb; replace HB := bS1 HB GE610 hb; (try clear hb); (try clear hb2); (try clear hk); (try clear hi); (try clear ho0)))
           (try simp only [Act.put, sA, sB, sC])
           go_cut [100] (fun v100 wc => ∃ (kq : Nat) (x100_59 : Bool), v100 = .bool x100_59 ∧ Aside0 (laws_FnExactShiftsOf.j2 kq t641 t640 x100_59 = some true) ∧ Aside0 (kq ≤ kj37) ∧ Aside0 (Kd.R k53 53 wc w.heap.size (fun _ => True) (.slice Ao61 t628.length co61) t641) ∧ Aside0 (wc.heap[gb610]? = some (.cells #[.int .i64 a1_0, .int .i64 a1_1, .int .i64 a1_2] 23 (0, 0))) ∧ Aside0 (Below w.heap.size w wc))
           case first =>
            have H := HC60.out
            clear HC60
            obtain ⟨t653, A68, H⟩ := ob H
            replace H : (if t653 = true then (laws_FnExactShiftsOf.j2 kj37 t641 t640 (t652 != t621)) else (laws_FnExactShiftsOf.j2 kj37 t641 t640 true)) = some true := H
            by_cases c69 : t653 = true
            ·subst c69
             have H1 : (laws_FnExactShiftsOf.j2 kj37 t641 t640 (t652 != t621)) = some true := by rw [if_pos rfl] at H; first | done | exact H
             clear H
             have H := H1
             clear H1
             have H' := Aside0.mk H
             clear H
             obtain ⟨Ao70, co70, eo70⟩ := Kd.R_slice HO651.out
             subst eo70
             obtain ⟨Ao71, co71, eo71⟩ := Kd.R_slice HO_8.out
             subst eo71
             go_wp2_with (first | ((with_reducible refine gate_callee (f := 18) rfl ?_); refine gl 94 Try.func18 #[.slice Ao70 t649.length co70, .slice Ao71 t618.length co71] ?_; (with_reducible refine (laws_eqVecS.calls _ _ _ _ _ _ _ _ _ ?side1 ?side2 ?side3 ?side4 A68.out).mono ?_); (case side1 => exact ks (Kd.R_reads' HO651.out).2.2); (case side2 => exact (Kd.R_reads' HO651.out).2.1); (case side3 => exact ks (Kd.R_reads' HO_8.out).2.2); (case side4 => exact (Kd.R_reads' HO_8.out).2.1); rintro e w72 ⟨rfl, hb⟩; refine ⟨_, rfl, ?_⟩; replace HO_8 := asd (Kd.R_below (kr HO_8) hb); replace HO_11 := asd (Kd.R_below (kr HO_11) hb); replace HO648 := asd (Kd.R_below (kr HO648) hb); replace HO651 := asd (Kd.R_below (kr HO651) hb); replace BK610 := bB BK610 hb; replace HB := bS1 HB GE610 hb; (try clear hb)))
             go_meet
             case rel => exact ⟨_, ((t652 != t621)), (by first | rfl | (simp; done) | (simp [*]; done)), H', ⟨by have := HJ12.out; have := HJ37.out; first | omega | exact Nat.le_refl _⟩, ⟨by (with_reducible repeat (first | apply Kd.R_alloc | apply Kd.R_drewN | apply Kd.R_drew)); exact Kd.R_mono HO_11.out (fun _ hk => trivial)⟩, ⟨bkp BK610⟩, ⟨bbw1 HB GE610⟩⟩
            ·replace c69 := Bool.eq_false_iff.mpr c69
             subst c69
             have H1 : (laws_FnExactShiftsOf.j2 kj37 t641 t640 true) = some true := by rw [if_neg (show ¬ (false = true) by decide)] at H; first | done | exact H
             clear H
             have H := H1
             clear H1
             have H' := Aside0.mk H
             clear H
             obtain ⟨Ao73, co73, eo73⟩ := Kd.R_slice HO651.out
             subst eo73
             obtain ⟨Ao74, co74, eo74⟩ := Kd.R_slice HO_8.out
             subst eo74
             go_wp2_with (first | ((with_reducible refine gate_callee (f := 18) rfl ?_); refine gl 94 Try.func18 #[.slice Ao73 t649.length co73, .slice Ao74 t618.length co74] ?_; (with_reducible refine (laws_eqVecS.calls _ _ _ _ _ _ _ _ _ ?side1 ?side2 ?side3 ?side4 A68.out).mono ?_); (case side1 => exact ks (Kd.R_reads' HO651.out).2.2); (case side2 => exact (Kd.R_reads' HO651.out).2.1); (case side3 => exact ks (Kd.R_reads' HO_8.out).2.2); (case side4 => exact (Kd.R_reads' HO_8.out).2.1); rintro e w75 ⟨rfl, hb⟩; refine ⟨_, rfl, ?_⟩; replace HO_8 := asd (Kd.R_below (kr HO_8) hb); replace HO_11 := asd (Kd.R_below (kr HO_11) hb); replace HO648 := asd (Kd.R_below (kr HO648) hb); replace HO651 := asd (Kd.R_below (kr HO651) hb); replace BK610 := bB BK610 hb; replace HB := bS1 HB GE610 hb; (try clear hb)))
             go_meet
             case rel => exact ⟨_, (true), (by first | rfl | (simp; done) | (simp [*]; done)), H', ⟨by have := HJ12.out; have := HJ37.out; first | omega | exact Nat.le_refl _⟩, ⟨by (with_reducible repeat (first | apply Kd.R_alloc | apply Kd.R_drewN | apply Kd.R_drew)); exact Kd.R_mono HO_11.out (fun _ hk => trivial)⟩, ⟨bkp BK610⟩, ⟨bbw1 HB GE610⟩⟩
           case rest =>
            clear HC60
            try clear c1
            try clear c2
            try clear p2
            try clear c3
            try clear c4
            try clear c5
            try clear c5b0
            try clear c6
            try clear c8
            try clear c10
            try clear c11
            try clear c13
            try clear c16
            try clear c17
            try clear c18
            try clear c19
            try clear c20
            try clear c21
            try clear c26
            try clear c33
            try clear c36
            try clear c43
            try clear c43b0
            try clear c45
            try clear c52
            try clear c55
            try clear c55b0
            try clear c56
            try clear c56b0
            try clear c56b1
            try clear c69
            try clear hcz15_0
            try clear hcz15_1
            try clear hcz15_2
            try clear hcz21_0
            try clear hcz21_1
            try clear hcz21_2
            try clear hcz63_0
            try clear hcz63_1
            try clear hcz63_2
            try clear hfz15_0
            try clear hfz15_1
            try clear hfz15_2
            try clear hfz21_0
            try clear hfz21_1
            try clear hfz21_2
            try clear hfz63_0
            try clear hfz63_1
            try clear hfz63_2
            try clear p2
            obtain ⟨kq, x100_59, rfl, HA, HJ59, HO_11, BK610, HB⟩ := hcut
            have hl11_59 := (Kd.R_reads' HO_11.out).1
            rw [hl11_59] at HO_11
            (try simp only [hl11_59])
            (try simp only [hl11_59] at BK610)
            cases kq with
            | zero => exact absurd HA.out (by simp [laws_FnExactShiftsOf.j2])
            | succ kj59 =>
             have H := HA.out
             clear HA
             simp only [laws_FnExactShiftsOf.j2] at H
             by_cases c76 : x100_59 = true
             ·subst c76
              have H1 : (some false) = some true := by rw [if_pos rfl] at H; first | done | exact H
              clear H
              have H := H1
              clear H1
              exact absurd H (by simp)
             ·replace c76 := Bool.eq_false_iff.mpr c76
              subst c76
              have H1 : ((laws_heldVecS.f kj59 t641 1).bind fun t654 => (if t654 < 0 then (some false) else (if t654 = t640 then (some true) else (some false)))) = some true := by rw [if_neg (show ¬ (false = true) by decide)] at H; first | done | exact H
              clear H
              have H := H1
              clear H1
              obtain ⟨t654, A77, H⟩ := ob H
              replace H : (if t654 < 0 then (some false) else (if t654 = t640 then (some true) else (some false))) = some true := H
              by_cases c78 : t654 < 0
              ·rw [if_pos c78] at H
               have c78b0 : decide (t654 < 0) = true := decide_eq_true c78
               clear c78
               exact absurd H (by simp)
              ·rw [if_neg c78] at H
               have c78b0 : decide (t654 < 0) = false := decide_eq_false c78
               clear c78
               by_cases c79 : t654 = t640
               ·rw [if_pos c79] at H
                have c79b0 : (t654 == t640) = true := beq_iff_eq.mpr c79
                have c79b1 : (t654 != t640) = false := bne_eq_false_iff_eq.mpr c79
                clear c79
                clear H
                go_wp2_with (first | ((with_reducible refine gate_callee (f := 21) rfl ?_); refine gl 103 Try.func21 #[.slice Ao61 t641.length co61, .int .i64 1] ?_; (with_reducible refine (laws_heldVecS.calls _ _ _ _ _ _ _ ?side1 ?side2 A77.out).mono ?_); (case side1 => exact ks (Kd.R_reads' HO_11.out).2.2); (case side2 => exact (Kd.R_reads' HO_11.out).2.1); rintro e w' ⟨rfl, ⟨nd, rfl⟩⟩; refine ⟨_, rfl, ?_⟩))
                go_ret
                exact er (bbw1 HB GE610)
               ·rw [if_neg c79] at H
                have c79b0 : (t654 == t640) = false := beq_eq_false_iff_ne.mpr c79
                have c79b1 : (t654 != t640) = true := bne_iff_ne.mpr c79
                exact absurd H (by simp)
          ·rw [if_neg c56] at H
           have c56b0 : (t642 == t640) = false := beq_eq_false_iff_ne.mpr c56
           have c56b1 : (t642 != t640) = true := bne_iff_ne.mpr c56
           exact absurd H (by simp)
     ·replace c36 := Bool.eq_false_iff.mpr c36
      subst c36
      have H1 : (some false) = some true := by rw [if_neg (show ¬ (false = true) by decide)] at H; first | done | exact H
      clear H
      have H := H1
      clear H1
      exact absurd H (by simp)

/-- The one plain statement of laws_FnExactShiftsOf. -/
def laws_FnExactShiftsOf.Pure : Prop := ∀ (a0 : Int) (a1_0 : Int) (a1_1 : Int) (a1_2 : Int) (l2 : List (S60)), (Lit.int .i64 a0).wf = true → (Lit.int .i64 a1_0).wf = true → (Lit.int .i64 a1_1).wf = true → (Lit.int .i64 a1_2).wf = true → l2.length ≤ maxLen → (∀ x ∈ l2, (Lit.int .i64 x.f0.f0).wf = true ∧ (Lit.int .i64 x.f0.f1).wf = true ∧ (Lit.int .i64 x.f0.f2).wf = true ∧ (Lit.int .i64 x.f0.f3).wf = true ∧ (Lit.int .i64 x.f1.f0).wf = true ∧ (Lit.int .i64 x.f1.f1).wf = true) → ∃ k, laws_FnExactShiftsOf.f k a0 a1_0 a1_1 a1_2 l2 = some true
end Go.Proofs.Ytcchmdodifkloaa.PA
