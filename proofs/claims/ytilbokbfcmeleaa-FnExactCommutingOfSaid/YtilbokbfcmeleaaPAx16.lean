/- Walks written by program: each Go function that the law reaches comes to the plain function beside it. -/
import Derived.Test.YtilbokbfcmeleaaPAx0
import Derived.Test.YtilbokbfcmeleaaPAx5
import Derived.Test.YtilbokbfcmeleaaPAx6
import Derived.Test.YtilbokbfcmeleaaPAx10
import Derived.Test.YtilbokbfcmeleaaPAx15
namespace Go.Proofs.Ytilbokbfcmeleaa.PA
open Go.RowKit Go.Proofs.YtilbokbfcmeleaaW.PrintWords Go.Proofs.YtilbokbfcmeleaaW.PrintLast Go.Proofs.YtilbokbfcmeleaaW.PrintMore
attribute [local go_sem] max2_int min2_int max_two min_two max_three min_three max_four min_four   -- for this text's walks alone
set_option linter.unusedVariables false
set_option linter.unusedSimpArgs false

/-! ### laws_FnExactCommutingOf: function 4 -/
mutual
def laws_FnExactCommutingOf.j0 : Nat → Int → List (S53) → List (S48) → Int → List (S48) → List (S48) → Int → Bool → Int → Int → Int → Option (Bool)
 | 0, _, _, _, _, _, _, _, _, _, _, _ => none
 | k + 1, x0, x2, x8, x9, x10, x11, x12, x50, x586000, x586001, x586002 => if x50 = true then (some false) else ((laws_toMotionS.f k x2).bind fun t608 => ((laws_eqMotionS.f k x10 t608).bind fun t611 => (if t611 = true then ((laws_markMotionS.f k x10 1).bind fun bt612 => (if bt612.1 < 0 then (laws_FnExactCommutingOf.j1 k x0 x2 x8 x9 x11 true x586000 x586001 x586002) else ((laws_eqMotionS.f k x11 x8).bind fun t614 => (if t614 = true then (laws_FnExactCommutingOf.j1 k x0 x2 x8 x9 x11 (x12 != x9) x586000 x586001 x586002) else (laws_FnExactCommutingOf.j1 k x0 x2 x8 x9 x11 true x586000 x586001 x586002))))) else (some false))))
def laws_FnExactCommutingOf.j1 : Nat → Int → List (S53) → List (S48) → Int → List (S48) → Bool → Int → Int → Int → Option (Bool)
 | 0, _, _, _, _, _, _, _, _, _ => none
 | k + 1, x0, x2, x8, x9, x11, x71, x586000, x586001, x586002 => if x71 = true then (some false) else ((laws_markMotionS.f k x11 1).bind fun bt615 => ((laws_heldMotionS.f k bt615.2 1).bind fun t617 => (if t617 < 0 then (some false) else (if t617 = bt615.1 then ((laws_toLattice.f x586000 x586001 x586002).bind fun bt618 => ((laws_toMotionS.f k x2).bind fun t621 => ((impl_CommutingOf.f k x0 bt618.1 bt618.2.1 bt618.2.2 t621).bind fun bt624 => ((laws_eqMotionS.f k bt624.1 x8).bind fun t628 => (if t628 = true then (laws_FnExactCommutingOf.j2 k bt615.2 bt615.1 (bt624.2 != x9)) else (laws_FnExactCommutingOf.j2 k bt615.2 bt615.1 true)))))) else (some false)))))
def laws_FnExactCommutingOf.j2 : Nat → List (S48) → Int → Bool → Option (Bool)
 | 0, _, _, _ => none
 | k + 1, x11, x14, x100 => if x100 = true then (some false) else ((laws_heldMotionS.f k x11 1).bind fun t629 => (if t629 < 0 then (some false) else (if t629 = x14 then (some true) else (some false))))
end
def laws_FnExactCommutingOf.f (k : Nat) (a0 : Int) (a1_0 : Int) (a1_1 : Int) (a1_2 : Int) (l2 : List (S53)) : Option (Bool) := (laws_szMotionS.f l2 1048576).bind fun t586 => (if t586 < 0 then (some true) else ((laws_toLattice.f a1_0 a1_1 a1_2).bind fun bt587 => ((laws_toMotionS.f k l2).bind fun t590 => ((spec_CommutingOf.f k a0 bt587.1 bt587.2.1 bt587.2.2 t590).bind fun bt593 => ((laws_toMotionS.f k l2).bind fun t597 => ((laws_toLattice.f a1_0 a1_1 a1_2).bind fun bt600 => ((impl_CommutingOf.f k a0 bt600.1 bt600.2.1 bt600.2.2 t597).bind fun bt603 => ((laws_eqMotionS.f k bt603.1 bt593.1).bind fun t607 => (if t607 = true then (laws_FnExactCommutingOf.j0 k a0 l2 bt593.1 bt593.2 t597 bt603.1 bt603.2 (bt603.2 != bt593.2) a1_0 a1_1 a1_2) else (laws_FnExactCommutingOf.j0 k a0 l2 bt593.1 bt593.2 t597 bt603.1 bt603.2 true a1_0 a1_1 a1_2))))))))))
set_option maxHeartbeats 8000000 in
set_option maxRecDepth 100000 in
theorem laws_FnExactCommutingOf.calls (k : Nat) (a0 : Int) (a1_0 : Int) (a1_1 : Int) (a1_2 : Int) (A2 : Option Addr) (c2 : Nat) (l2 : List (S53)) (w : World) (hr2 : Kd.C k53 w A2 l2.length l2) (hc2 : l2.length ≤ c2) (h : laws_FnExactCommutingOf.f k a0 a1_0 a1_1 a1_2 l2 = some true) :
  Calls Try.prog 4 #[.int .i64 a0, .agg #[.int .i64 a1_0, .int .i64 a1_1, .int .i64 a1_2], .slice A2 l2.length c2] w fun e w' => e = .returned (.bool true) ∧ Below w.heap.size w w' := by
 have hu23 := Try.underlying23
 have HR2 := Aside0.mk hr2
 have HC2 := Aside0.mk hc2
 clear hr2 hc2
 have HB := asd (Below.refl w.heap.size w)
 have H : ((laws_szMotionS.f l2 1048576).bind fun t586 => (if t586 < 0 then (some true) else ((laws_toLattice.f a1_0 a1_1 a1_2).bind fun bt587 => ((laws_toMotionS.f k l2).bind fun t590 => ((spec_CommutingOf.f k a0 bt587.1 bt587.2.1 bt587.2.2 t590).bind fun bt593 => ((laws_toMotionS.f k l2).bind fun t597 => ((laws_toLattice.f a1_0 a1_1 a1_2).bind fun bt600 => ((impl_CommutingOf.f k a0 bt600.1 bt600.2.1 bt600.2.2 t597).bind fun bt603 => ((laws_eqMotionS.f k bt603.1 bt593.1).bind fun t607 => (if t607 = true then (laws_FnExactCommutingOf.j0 k a0 l2 bt593.1 bt593.2 t597 bt603.1 bt603.2 (bt603.2 != bt593.2) a1_0 a1_1 a1_2) else (laws_FnExactCommutingOf.j0 k a0 l2 bt593.1 bt593.2 t597 bt603.1 bt603.2 true a1_0 a1_1 a1_2))))))))))) = some true := h
 clear h
 obtain ⟨t586, A4, H⟩ := ob H
 try dsimp only at H
 by_cases c5 : t586 < 0
 ·rw [if_pos c5] at H
  have c5b0 := decide_eq_true c5
  clear c5
  clear H
  go_enter Try.func4, Try.ntmps4
  go_wp2_with (first | ((with_reducible refine gd 4 rfl ?_); refine bx #[.int .i64 a1_0, .int .i64 a1_1, .int .i64 a1_2] 23 ?_; intro gb585 hg w6 BK585 hb; have GE585 := ngw0 hg HB; replace HB := bS0 HB hb; clear hb hg) | ((with_reducible refine gate_callee (f := 6) rfl ?_); refine gl 20 Try.func6 #[.slice A2 l2.length c2, .int .i64 1048576] ?_; (with_reducible refine (laws_szMotionS.calls _ _ _ _ _ _ ?side1 ?side2 A4.out).mono ?_); (case side1 => exact ks (Kd.C_below HR2.out HB.out)); (case side2 => exact HC2.out); rintro e w' ⟨rfl, ⟨nd, rfl⟩⟩; refine ⟨_, rfl, ?_⟩))
  go_ret
  exact er (bbw1 HB GE585)
 ·rw [if_neg c5] at H
  have c5b0 := decide_eq_false c5
  clear c5
  obtain ⟨⟨t587, t588, t589⟩, A7, H⟩ := ob H
  try dsimp only at H
  obtain ⟨t590, A8, H⟩ := ob H
  try dsimp only at H
  obtain ⟨⟨t593, t596⟩, A9, H⟩ := ob H
  try dsimp only at H
  obtain ⟨t597, A10, H⟩ := ob H
  try dsimp only at H
  obtain ⟨⟨t600, t601, t602⟩, A11, H⟩ := ob H
  try dsimp only at H
  obtain ⟨⟨t603, t606⟩, A12, H⟩ := ob H
  try dsimp only at H
  have HC13 := Aside0.mk H
  clear H
  go_enter Try.func4, Try.ntmps4
  go_upto_region 8 with (first | ((with_reducible refine gd 4 rfl ?_); refine bx #[.int .i64 a1_0, .int .i64 a1_1, .int .i64 a1_2] 23 ?_; intro gb585 hg w14 BK585 hb; have GE585 := ngw0 hg HB; replace HB := bS0 HB hb; clear hb hg) | ((with_reducible refine gate_callee (f := 6) rfl ?_); refine gl 20 Try.func6 #[.slice A2 l2.length c2, .int .i64 1048576] ?_; (with_reducible refine (laws_szMotionS.calls _ _ _ _ _ _ ?side1 ?side2 A4.out).mono ?_); (case side1 => exact ks (Kd.C_below HR2.out HB.out)); (case side2 => exact HC2.out); rintro e w' ⟨rfl, ⟨nd, rfl⟩⟩; refine ⟨_, rfl, ?_⟩; have hcz15_0 : w14.cell? ⟨gb585, 0, none⟩ = some (.int .i64 a1_0) := bcl BK585 0; have hcz15_1 : w14.cell? ⟨gb585, 1, none⟩ = some (.int .i64 a1_1) := bcl BK585 1; have hcz15_2 : w14.cell? ⟨gb585, 2, none⟩ = some (.int .i64 a1_2) := bcl BK585 2; have hfz15_0 := blk_frozen BK585.out 0; have hfz15_1 := blk_frozen BK585.out 1; have hfz15_2 := blk_frozen BK585.out 2) | ((with_reducible refine gate_callee (f := 8) rfl ?_); refine gl 26 Try.func8 #[.agg #[.int .i64 a1_0, .int .i64 a1_1, .int .i64 a1_2]] ?_; (with_reducible refine (laws_toLattice.calls _ _ _ _ _ _ _ A7.out).mono ?_); rintro e w16 ⟨rfl, hb⟩; refine ⟨_, rfl, ?_⟩; replace BK585 := bB BK585 hb; replace HB := bS1 HB GE585 hb; (try clear hb)) | ((with_reducible refine gate_callee (f := 9) rfl ?_); refine gl 28 Try.func9 #[.slice A2 l2.length c2] ?_; (with_reducible refine (laws_toMotionS.calls _ _ _ _ _ _ ?side1 ?side2 A8.out).mono ?_); (case side1 => exact ks (Kd.C_below HR2.out HB.out)); (case side2 => exact HC2.out); rintro e w17 ⟨v591, rfl, ho0, hb⟩; refine ⟨_, rfl, ?_⟩; have HO592 := asd (Kd.R_lower ho0 (bsz1 HB GE585)); replace BK585 := bB BK585 hb; replace HB := bS1 HB GE585 hb; (try clear hb); (try clear hb2); (try clear hk); (try clear hi); (try clear ho0); obtain ⟨Ao18, co18, eo18⟩ := Kd.R_slice HO592.out; subst eo18) | ((with_reducible refine gate_callee (f := 14) rfl ?_); refine gl 29 Try.func14 #[.int .i64 a0, .agg #[.int .i64 t587, .int .i64 t588, .int .i64 t589], .slice Ao18 t590.length co18] ?_; (with_reducible refine (spec_CommutingOf.calls _ _ _ _ _ _ _ _ _ _ _ ?side1 ?side2 A9.out).mono ?_); (case side1 => exact ks (Kd.R_reads' HO592.out).2.2); (case side2 => exact (Kd.R_reads' HO592.out).2.1); rintro e w19 ⟨v594, rfl, ho0, hb⟩; refine ⟨_, rfl, ?_⟩; have HO595 := asd (Kd.R_lower (Kd.R_new' ho0 (Kd.R_lt (kr HO592))) (bsz1 HB GE585)); replace HO592 := asd (Kd.R_elder' (kr HO592) (Kd.R_base ho0) hb); replace BK585 := bB BK585 hb; replace HB := bS1 HB GE585 hb; (try clear hb); (try clear hb2); (try clear hk); (try clear hi); (try clear ho0)) | ((with_reducible refine gate_callee (f := 9) rfl ?_); refine gl 33 Try.func9 #[.slice A2 l2.length c2] ?_; (with_reducible refine (laws_toMotionS.calls _ _ _ _ _ _ ?side1 ?side2 A10.out).mono ?_); (case side1 => exact ks (Kd.C_below HR2.out HB.out)); (case side2 => exact HC2.out); rintro e w20 ⟨v598, rfl, ho0, hb⟩; refine ⟨_, rfl, ?_⟩; have HO599 := asd (Kd.R_lower (Kd.R_new' (Kd.R_new' ho0 (Kd.R_lt (kr HO592))) (Kd.R_lt (kr HO595))) (bsz1 HB GE585)); replace HO592 := asd (Kd.R_elder' (kr HO592) (Kd.R_base ho0) hb); replace HO595 := asd (Kd.R_elder' (kr HO595) (Kd.R_base ho0) hb); replace BK585 := bB BK585 hb; replace HB := bS1 HB GE585 hb; (try clear hb); (try clear hb2); (try clear hk); (try clear hi); (try clear ho0); obtain ⟨hcz21_0, hcz21_1, hcz21_2, hfz21_0, hfz21_1, hfz21_2⟩ := bz3 BK585) | ((with_reducible refine gate_callee (f := 8) rfl ?_); refine gl 37 Try.func8 #[.agg #[.int .i64 a1_0, .int .i64 a1_1, .int .i64 a1_2]] ?_; (with_reducible refine (laws_toLattice.calls _ _ _ _ _ _ _ A11.out).mono ?_); rintro e w22 ⟨rfl, hb⟩; refine ⟨_, rfl, ?_⟩; replace HO592 := asd (Kd.R_below (kr HO592) hb); replace HO595 := asd (Kd.R_below (kr HO595) hb); replace HO599 := asd (Kd.R_below (kr HO599) hb); replace BK585 := bB BK585 hb; replace HB := bS1 HB GE585 hb; (try clear hb); obtain ⟨Ao23, co23, eo23⟩ := Kd.R_slice HO599.out; subst eo23) | ((with_reducible refine gate_callee (f := 15) rfl ?_); refine gl 39 Try.func15 #[.int .i64 a0, .agg #[.int .i64 t600, .int .i64 t601, .int .i64 t602], .slice Ao23 t597.length co23] ?_; (with_reducible refine (impl_CommutingOf.calls _ _ _ _ _ _ _ _ _ _ _ ?side1 ?side2 A12.out).mono ?_); (case side1 => exact ks (Kd.R_reads' HO599.out).2.2); (case side2 => exact (Kd.R_reads' HO599.out).2.1); rintro e w24 ⟨v604, rfl, ho0, hb⟩; refine ⟨_, rfl, ?_⟩; have HO605 := asd (Kd.R_lower (Kd.R_new' (Kd.R_new' (Kd.R_new' ho0 (Kd.R_lt (kr HO592))) (Kd.R_lt (kr HO595))) (Kd.R_lt (kr HO599))) (bsz1 HB GE585)); replace HO592 := asd (Kd.R_elder' (kr HO592) (Kd.R_base ho0) hb); replace HO595 := asd (Kd.R_elder' (kr HO595) (Kd.R_base ho0) hb); replace HO599 := asd (Kd.R_elder' (kr HO599) (Kd.R_base ho0) hb); replace BK585 := bB BK585 hb; replace HB := bS1 HB GE585 hb; (try clear hb); (try clear hb2); (try clear hk); (try clear hi); (try clear ho0)))
  (try simp only [Act.put, sA, sB, sC])
  go_cut [50] (fun v50 wc => ∃ (kq : Nat) (x50_12 : Bool), v50 = .bool x50_12 ∧ Aside0 (laws_FnExactCommutingOf.j0 kq a0 l2 t593 t596 t597 t603 t606 x50_12 a1_0 a1_1 a1_2 = some true) ∧ Aside0 (kq ≤ k) ∧ Aside0 (Kd.R k48 48 wc w.heap.size (fun k_ => some k_ ≠ ((.slice Ao23 t597.length co23) : Value).ownBlock ∧ some k_ ≠ (v604 : Value).ownBlock) v594 t593) ∧ Aside0 (Kd.R k48 48 wc w.heap.size (fun k_ => some k_ ≠ (v594 : Value).ownBlock ∧ some k_ ≠ (v604 : Value).ownBlock) (.slice Ao23 t597.length co23) t597) ∧ Aside0 (Kd.R k48 48 wc w.heap.size (fun k_ => some k_ ≠ (v594 : Value).ownBlock ∧ some k_ ≠ ((.slice Ao23 t597.length co23) : Value).ownBlock) v604 t603) ∧ Aside0 (wc.heap[gb585]? = some (.cells #[.int .i64 a1_0, .int .i64 a1_1, .int .i64 a1_2] 23 (0, 0))) ∧ Aside0 (Below w.heap.size w wc))
  case first =>
   have H := HC13.out
   clear HC13
   obtain ⟨t607, A25, H⟩ := ob H
   try dsimp only at H
   by_cases c26 : t607 = true
   subst c26
   replace H := ifT H
   have H' := Aside0.mk H
   clear H
   rotate_left
   replace c26 := Bool.eq_false_iff.mpr c26
   subst c26
   replace H := ifF H
   have H' := Aside0.mk H
   clear H
   rotate_left
   all_goals
    obtain ⟨Ao27, co27, eo27⟩ := Kd.R_slice HO605.out
    subst eo27
    obtain ⟨Ao28, co28, eo28⟩ := Kd.R_slice HO595.out
    subst eo28
    go_wp2_with (first | ((with_reducible refine gate_callee (f := 11) rfl ?_); refine gl 44 Try.func11 #[.slice Ao27 t603.length co27, .slice Ao28 t593.length co28] ?_; (with_reducible refine (laws_eqMotionS.calls _ _ _ _ _ _ _ _ _ ?side1 ?side2 ?side3 ?side4 A25.out).mono ?_); (case side1 => exact ks (Kd.R_reads' HO605.out).2.2); (case side2 => exact (Kd.R_reads' HO605.out).2.1); (case side3 => exact ks (Kd.R_reads' HO595.out).2.2); (case side4 => exact (Kd.R_reads' HO595.out).2.1); rintro e w29 ⟨rfl, hb⟩; refine ⟨_, rfl, ?_⟩; replace HO592 := asd (Kd.R_below (kr HO592) hb); replace HO595 := asd (Kd.R_below (kr HO595) hb); replace HO599 := asd (Kd.R_below (kr HO599) hb); replace HO605 := asd (Kd.R_below (kr HO605) hb); replace BK585 := bB BK585 hb; replace HB := bS1 HB GE585 hb; (try clear hb)))
    go_meet
   ·case rel => exact ⟨_, ((t606 != t596)), (by first | rfl | (simp; done) | (simp [*]; done)), H', ⟨by first | omega | exact Nat.le_refl _⟩, ⟨by (with_reducible repeat (first | apply Kd.R_alloc | apply Kd.R_drewN | apply Kd.R_drew)); exact Kd.R_mono HO595.out (fun _ hk => ⟨hk.1.2, hk.2⟩)⟩, ⟨by (with_reducible repeat (first | apply Kd.R_alloc | apply Kd.R_drewN | apply Kd.R_drew)); exact Kd.R_mono HO599.out (fun _ hk => ⟨hk.1.2, hk.2⟩)⟩, ⟨by (with_reducible repeat (first | apply Kd.R_alloc | apply Kd.R_drewN | apply Kd.R_drew)); exact Kd.R_mono HO605.out (fun _ hk => ⟨hk.1.2, hk.2⟩)⟩, ⟨bkp BK585⟩, ⟨bbw1 HB GE585⟩⟩
   ·case rel => exact ⟨_, (true), (by first | rfl | (simp; done) | (simp [*]; done)), H', ⟨by first | omega | exact Nat.le_refl _⟩, ⟨by (with_reducible repeat (first | apply Kd.R_alloc | apply Kd.R_drewN | apply Kd.R_drew)); exact Kd.R_mono HO595.out (fun _ hk => ⟨hk.1.2, hk.2⟩)⟩, ⟨by (with_reducible repeat (first | apply Kd.R_alloc | apply Kd.R_drewN | apply Kd.R_drew)); exact Kd.R_mono HO599.out (fun _ hk => ⟨hk.1.2, hk.2⟩)⟩, ⟨by (with_reducible repeat (first | apply Kd.R_alloc | apply Kd.R_drewN | apply Kd.R_drew)); exact Kd.R_mono HO605.out (fun _ hk => ⟨hk.1.2, hk.2⟩)⟩, ⟨bkp BK585⟩, ⟨bbw1 HB GE585⟩⟩
  case rest =>
   clear HC13
   try clear c1
   try clear c2
   try clear p2
   try clear c4
   try clear c5
   try clear c5b0
   try clear c6
   try clear c8
   try clear c9
   try clear c11
   try clear c14
   try clear c15
   try clear c26
   try clear hcz15_0
   try clear hcz15_1
   try clear hcz15_2
   try clear hcz21_0
   try clear hcz21_1
   try clear hcz21_2
   try clear hfz15_0
   try clear hfz15_1
   try clear hfz15_2
   try clear hfz21_0
   try clear hfz21_1
   try clear hfz21_2
   obtain ⟨kq, x50_12, rfl, HA, HJ12, HO_8, HO_10, HO_11, BK585, HB⟩ := hcut
   cases kq with
   | zero => exact absurd HA.out (by simp [laws_FnExactCommutingOf.j0])
   | succ kj12 =>
    have H := HA.out
    clear HA
    simp only [laws_FnExactCommutingOf.j0] at H
    by_cases c33 : x50_12 = true
    ·subst c33
     replace H := ifT H
     exact absurd H (by simp)
    ·replace c33 := Bool.eq_false_iff.mpr c33
     subst c33
     replace H := ifF H
     obtain ⟨t608, A34, H⟩ := ob H
     try dsimp only at H
     obtain ⟨t611, A35, H⟩ := ob H
     try dsimp only at H
     by_cases c36 : t611 = true
     ·subst c36
      replace H := ifT H
      obtain ⟨⟨t612, t613⟩, A37, H⟩ := ob H
      try dsimp only at H
      have HC38 := Aside0.mk H
      clear H
      go_upto_region 14 with (first | ((with_reducible refine gate_callee (f := 9) rfl ?_); refine gl 53 Try.func9 #[.slice A2 l2.length c2] ?_; (with_reducible refine (laws_toMotionS.calls _ _ _ _ _ _ ?side1 ?side2 A34.out).mono ?_); (case side1 => exact ks (Kd.C_below HR2.out HB.out)); (case side2 => exact HC2.out); rintro e w39 ⟨v609, rfl, ho0, hb⟩; refine ⟨_, rfl, ?_⟩; have HO610 := asd (Kd.R_lower (Kd.R_new' (Kd.R_new' (Kd.R_new' ho0 (Kd.R_lt (kr HO_8))) (Kd.R_lt (kr HO_10))) (Kd.R_lt (kr HO_11))) (bsz1 HB GE585)); replace HO_8 := asd (Kd.R_elder' (kr HO_8) (Kd.R_base ho0) hb); replace HO_10 := asd (Kd.R_elder' (kr HO_10) (Kd.R_base ho0) hb); replace HO_11 := asd (Kd.R_elder' (kr HO_11) (Kd.R_base ho0) hb); replace BK585 := bB BK585 hb; replace HB := bS1 HB GE585 hb; (try clear hb); (try clear hb2); (try clear hk); (try clear hi); (try clear ho0); obtain ⟨Ao40, co40, eo40⟩ := Kd.R_slice HO610.out; subst eo40) | ((with_reducible refine gate_callee (f := 11) rfl ?_); refine gl 54 Try.func11 #[.slice Ao23 t597.length co23, .slice Ao40 t608.length co40] ?_; (with_reducible refine (laws_eqMotionS.calls _ _ _ _ _ _ _ _ _ ?side1 ?side2 ?side3 ?side4 A35.out).mono ?_); (case side1 => exact ks (Kd.R_reads' HO_10.out).2.2); (case side2 => exact (Kd.R_reads' HO_10.out).2.1); (case side3 => exact ks (Kd.R_reads' HO610.out).2.2); (case side4 => exact (Kd.R_reads' HO610.out).2.1); rintro e w41 ⟨rfl, hb⟩; refine ⟨_, rfl, ?_⟩; replace HO_8 := asd (Kd.R_below (kr HO_8) hb); replace HO_10 := asd (Kd.R_below (kr HO_10) hb); replace HO_11 := asd (Kd.R_below (kr HO_11) hb); replace HO610 := asd (Kd.R_below (kr HO610) hb); replace BK585 := bB BK585 hb; replace HB := bS1 HB GE585 hb; (try clear hb)) | ((with_reducible refine gate_callee (f := 12) rfl ?_); refine gl 58 Try.func12 #[.slice Ao23 t597.length co23, .int .i64 1] ?_; (with_reducible refine (laws_markMotionS.calls _ (fun k_ => some k_ = (.slice Ao23 t597.length co23 : Value).ownBlock) _ _ _ _ _ w _ ?side1 ?side2 A37.out).mono ?_); (case side1 => repeat (first | (with_reducible first | exact HB.out | apply below_alloc | apply pw_below_drewN | apply below_drew1 | refine below_set ?_ GE585.out) | exact HB.out)); (case side2 => exact Kd.R_tight rfl HO_10.out); rintro e w42 ⟨rfl, hy0, hb, hkp⟩; refine ⟨_, rfl, ?_⟩; replace HO_8 := asd (Kd.R_mono (ok' := fun k_ => some k_ ≠ (.slice Ao23 t597.length co23 : Value).ownBlock ∧ some k_ ≠ (v604 : Value).ownBlock ∧ some k_ ≠ (.slice Ao40 t608.length co40 : Value).ownBlock) (Kd.R_keptB (HO_8.out) hkp (fun k_ hk_ hs_ => (hk_.1.1) hs_)) (fun k_ hk_ => ⟨hk_.1.1.1, hk_.1.1.2, hk_.1.2⟩)); replace HO_11 := asd (Kd.R_mono (ok' := fun k_ => some k_ ≠ (v594 : Value).ownBlock ∧ some k_ ≠ (.slice Ao23 t597.length co23 : Value).ownBlock ∧ some k_ ≠ (.slice Ao40 t608.length co40 : Value).ownBlock) (Kd.R_keptB (HO_11.out) hkp (fun k_ hk_ hs_ => (hk_.1.2) hs_)) (fun k_ hk_ => ⟨hk_.1.1.1, hk_.1.1.2, hk_.1.2⟩)); replace BK585 := asd (blk_kept (bkp BK585) hkp (fun hs_ => (fun e_ => (Kd.R_ne HO_10.out BK585.out (by decide)) e_) hs_)); replace HO_10 := asd (Kd.R_reok rfl hy0 (fun k_ e_ => HO_10.out.1 k_ e_)); replace HO610 := asd (Kd.R_mono (ok' := fun k_ => some k_ ≠ (v594 : Value).ownBlock ∧ some k_ ≠ (.slice Ao23 t597.length co23 : Value).ownBlock ∧ some k_ ≠ (v604 : Value).ownBlock) (Kd.R_keptB (HO610.out) hkp (fun k_ hk_ hs_ => (hk_.1.2) hs_)) (fun k_ hk_ => ⟨hk_.1.1.1.2, hk_.1.1.2, hk_.1.2⟩)); replace HB := asd (hb); (try clear hb); (try clear hkp); (try clear hy0)))
      (try simp only [Act.put, sA, sB, sC])
      go_cut [71] (fun v71 wc => ∃ (kq : Nat) (x71_37 : Bool), v71 = .bool x71_37 ∧ Aside0 (laws_FnExactCommutingOf.j1 kq a0 l2 t593 t596 t603 x71_37 a1_0 a1_1 a1_2 = some true) ∧ Aside0 (kq ≤ kj12) ∧ Aside0 (Kd.R k48 48 wc w.heap.size (fun k_ => some k_ ≠ (v604 : Value).ownBlock) v594 t593) ∧ Aside0 (Kd.R k48 48 wc w.heap.size (fun k_ => some k_ ≠ (v594 : Value).ownBlock) v604 t603) ∧ Aside0 (wc.heap[gb585]? = some (.cells #[.int .i64 a1_0, .int .i64 a1_1, .int .i64 a1_2] 23 (0, 0))) ∧ Aside0 (Below w.heap.size w wc))
      case first =>
       have H := HC38.out
       clear HC38
       by_cases c43 : t612 < 0
       ·rw [if_pos c43] at H
        have c43b0 := decide_eq_true c43
        clear c43
        (first | rw [c43b0] | (simp only [i64_w, i32_w]; rw [c43b0]) | skip)
        have H' := Aside0.mk H
        clear H
        go_wp2
        go_meet
        case rel => exact ⟨_, (true), (by first | rfl | (simp; done) | (simp [*]; done)), H', ⟨by have := HJ12.out; first | omega | exact Nat.le_refl _⟩, ⟨by (with_reducible repeat (first | apply Kd.R_alloc | apply Kd.R_drewN | apply Kd.R_drew)); exact Kd.R_mono HO_8.out (fun _ hk => hk.2.1)⟩, ⟨by (with_reducible repeat (first | apply Kd.R_alloc | apply Kd.R_drewN | apply Kd.R_drew)); exact Kd.R_mono HO_11.out (fun _ hk => hk.1)⟩, ⟨bkp BK585⟩, ⟨bbw1 HB GE585⟩⟩
       ·rw [if_neg c43] at H
        have c43b0 := decide_eq_false c43
        clear c43
        (first | rw [c43b0] | (simp only [i64_w, i32_w]; rw [c43b0]) | skip)
        obtain ⟨t614, A44, H⟩ := ob H
        try dsimp only at H
        by_cases c45 : t614 = true
        subst c45
        replace H := ifT H
        have H' := Aside0.mk H
        clear H
        rotate_left
        replace c45 := Bool.eq_false_iff.mpr c45
        subst c45
        replace H := ifF H
        have H' := Aside0.mk H
        clear H
        rotate_left
        all_goals
         obtain ⟨Ao46, co46, eo46⟩ := Kd.R_slice HO_11.out
         subst eo46
         obtain ⟨Ao47, co47, eo47⟩ := Kd.R_slice HO_8.out
         subst eo47
         go_wp2_with (first | (go_at_call 11; (with_reducible refine (laws_eqMotionS.calls _ _ _ _ _ _ _ _ _ ?side1 ?side2 ?side3 ?side4 A44.out).mono ?_); (case side1 => exact ks (Kd.R_reads' HO_11.out).2.2); (case side2 => exact (Kd.R_reads' HO_11.out).2.1); (case side3 => exact ks (Kd.R_reads' HO_8.out).2.2); (case side4 => exact (Kd.R_reads' HO_8.out).2.1); rintro e w48 ⟨rfl, hb⟩; replace HO_8 := asd (Kd.R_below (kr HO_8) hb); replace HO_10 := asd (Kd.R_below (kr HO_10) hb); replace HO_11 := asd (Kd.R_below (kr HO_11) hb); replace HO610 := asd (Kd.R_below (kr HO610) hb); replace BK585 := bB BK585 hb; replace HB := bS1 HB GE585 hb; (try clear hb)))
         go_meet
        ·case rel => exact ⟨_, ((t606 != t596)), (by first | rfl | (simp; done) | (simp [*]; done)), H', ⟨by have := HJ12.out; first | omega | exact Nat.le_refl _⟩, ⟨by (with_reducible repeat (first | apply Kd.R_alloc | apply Kd.R_drewN | apply Kd.R_drew)); exact Kd.R_mono HO_8.out (fun _ hk => hk.2.1)⟩, ⟨by (with_reducible repeat (first | apply Kd.R_alloc | apply Kd.R_drewN | apply Kd.R_drew)); exact Kd.R_mono HO_11.out (fun _ hk => hk.1)⟩, ⟨bkp BK585⟩, ⟨bbw1 HB GE585⟩⟩
        ·case rel => exact ⟨_, (true), (by first | rfl | (simp; done) | (simp [*]; done)), H', ⟨by have := HJ12.out; first | omega | exact Nat.le_refl _⟩, ⟨by (with_reducible repeat (first | apply Kd.R_alloc | apply Kd.R_drewN | apply Kd.R_drew)); exact Kd.R_mono HO_8.out (fun _ hk => hk.2.1)⟩, ⟨by (with_reducible repeat (first | apply Kd.R_alloc | apply Kd.R_drewN | apply Kd.R_drew)); exact Kd.R_mono HO_11.out (fun _ hk => hk.1)⟩, ⟨bkp BK585⟩, ⟨bbw1 HB GE585⟩⟩
      case rest =>
       clear HC38
       try clear c1
       try clear c2
       try clear p2
       try clear c3
       try clear c4
       try clear c5
       try clear c5b0
       try clear c6
       try clear c8
       try clear c9
       try clear c11
       try clear c12
       try clear c14
       try clear c15
       try clear c26
       try clear c33
       try clear c36
       try clear c43
       try clear c43b0
       try clear c45
       try clear hcz15_0
       try clear hcz15_1
       try clear hcz15_2
       try clear hcz21_0
       try clear hcz21_1
       try clear hcz21_2
       try clear hfz15_0
       try clear hfz15_1
       try clear hfz15_2
       try clear hfz21_0
       try clear hfz21_1
       try clear hfz21_2
       try clear p2
       obtain ⟨kq, x71_37, rfl, HA, HJ37, HO_8, HO_11, BK585, HB⟩ := hcut
       cases kq with
       | zero => exact absurd HA.out (by simp [laws_FnExactCommutingOf.j1])
       | succ kj37 =>
        have H := HA.out
        clear HA
        simp only [laws_FnExactCommutingOf.j1] at H
        by_cases c52 : x71_37 = true
        ·subst c52
         replace H := ifT H
         exact absurd H (by simp)
        ·replace c52 := Bool.eq_false_iff.mpr c52
         subst c52
         replace H := ifF H
         obtain ⟨⟨t615, t616⟩, A53, H⟩ := ob H
         try dsimp only at H
         obtain ⟨t617, A54, H⟩ := ob H
         try dsimp only at H
         by_cases c55 : t617 < 0
         ·rw [if_pos c55] at H
          have c55b0 := decide_eq_true c55
          clear c55
          exact absurd H (by simp)
         ·rw [if_neg c55] at H
          have c55b0 := decide_eq_false c55
          clear c55
          by_cases c56 : t617 = t615
          ·rw [if_pos c56] at H
           have c56b0 : (t617 == t615) = true := beq_iff_eq.mpr c56
           have c56b1 : (t617 != t615) = false := bne_eq_false_iff_eq.mpr c56
           clear c56
           obtain ⟨⟨t618, t619, t620⟩, A57, H⟩ := ob H
           try dsimp only at H
           obtain ⟨t621, A58, H⟩ := ob H
           try dsimp only at H
           obtain ⟨⟨t624, t627⟩, A59, H⟩ := ob H
           try dsimp only at H
           have HC60 := Aside0.mk H
           clear H
           obtain ⟨Ao61, co61, eo61⟩ := Kd.R_slice HO_11.out
           subst eo61
           go_upto_region 25 with (first | ((with_reducible refine gate_callee (f := 12) rfl ?_); refine gl 74 Try.func12 #[.slice Ao61 t603.length co61, .int .i64 1] ?_; (with_reducible refine (laws_markMotionS.calls _ (fun k_ => some k_ = (.slice Ao61 t603.length co61 : Value).ownBlock) _ _ _ _ _ w _ ?side1 ?side2 A53.out).mono ?_); (case side1 => repeat (first | (with_reducible first | exact HB.out | apply below_alloc | apply pw_below_drewN | apply below_drew1 | refine below_set ?_ GE585.out) | exact HB.out)); (case side2 => exact Kd.R_tight rfl HO_11.out); rintro e w62 ⟨rfl, hy0, hb, hkp⟩; refine ⟨_, rfl, ?_⟩; replace HO_8 := asd (Kd.R_mono (ok' := fun k_ => some k_ ≠ (.slice Ao61 t603.length co61 : Value).ownBlock) (Kd.R_keptB (HO_8.out) hkp (fun k_ hk_ hs_ => (hk_) hs_)) (fun k_ hk_ => hk_.1)); replace BK585 := asd (blk_kept (bkp BK585) hkp (fun hs_ => (fun e_ => (Kd.R_ne HO_11.out BK585.out (by decide)) e_) hs_)); replace HO_11 := asd (Kd.R_reok rfl hy0 (fun k_ e_ => HO_11.out.1 k_ e_)); replace HB := asd (hb); (try clear hb); (try clear hkp); (try clear hy0)) | ((with_reducible refine gate_callee (f := 13) rfl ?_); refine goesL_ (some 77) rfl rfl Try.func13 (by kernel_rfl) rfl #[.slice Ao61 t616.length co61, .int .i64 1] rfl (by (try simp only [List.map_toArray, List.map_cons, List.map_nil]); first | done | (rw [show t616.length = t603.length from (Kd.R_reads' HO_11.out).1.symm] <;> rfl) | rfl | (simp only [List.length_drop, List.length_take]; rfl)) ?_; (with_reducible refine (laws_heldMotionS.calls _ _ _ _ _ _ _ ?side1 ?side2 A54.out).mono ?_); (case side1 => exact ks (Kd.R_reads' HO_11.out).2.2); (case side2 => rw [show t616.length = t603.length from (Kd.R_reads' HO_11.out).1.symm]; exact (Kd.R_reads' HO_11.out).2.1); rintro e w' ⟨rfl, ⟨nd, rfl⟩⟩; refine ⟨_, rfl, ?_⟩; have hcz63_0 : w62.cell? ⟨gb585, 0, none⟩ = some (.int .i64 a1_0) := bcl BK585 0; have hcz63_1 : w62.cell? ⟨gb585, 1, none⟩ = some (.int .i64 a1_1) := bcl BK585 1; have hcz63_2 : w62.cell? ⟨gb585, 2, none⟩ = some (.int .i64 a1_2) := bcl BK585 2; have hfz63_0 := blk_frozen BK585.out 0; have hfz63_1 := blk_frozen BK585.out 1; have hfz63_2 := blk_frozen BK585.out 2) | ((with_reducible refine gate_callee (f := 8) rfl ?_); refine gl 86 Try.func8 #[.agg #[.int .i64 a1_0, .int .i64 a1_1, .int .i64 a1_2]] ?_; (with_reducible refine (laws_toLattice.calls _ _ _ _ _ _ _ A57.out).mono ?_); rintro e w64 ⟨rfl, hb⟩; refine ⟨_, rfl, ?_⟩; replace HO_8 := asd (Kd.R_below (kr HO_8) hb); replace HO_11 := asd (Kd.R_below (kr HO_11) hb); replace BK585 := bB BK585 hb; replace HB := bS1 HB GE585 hb; (try clear hb)) | ((with_reducible refine gate_callee (f := 9) rfl ?_); refine gl 88 Try.func9 #[.slice A2 l2.length c2] ?_; (with_reducible refine (laws_toMotionS.calls _ _ _ _ _ _ ?side1 ?side2 A58.out).mono ?_); (case side1 => exact ks (Kd.C_below HR2.out HB.out)); (case side2 => exact HC2.out); rintro e w65 ⟨v622, rfl, ho0, hb⟩; refine ⟨_, rfl, ?_⟩; have HO623 := asd (Kd.R_lower (Kd.R_new' (Kd.R_new' ho0 (Kd.R_lt (kr HO_8))) (Kd.R_lt (kr HO_11))) (bsz1 HB GE585)); replace HO_8 := asd (Kd.R_elder' (kr HO_8) (Kd.R_base ho0) hb); replace HO_11 := asd (Kd.R_elder' (kr HO_11) (Kd.R_base ho0) hb); replace BK585 := bB BK585 hb; replace HB := bS1 HB GE585 hb; (try clear hb); (try clear hb2); (try clear hk); (try clear hi); (try clear ho0); obtain ⟨Ao66, co66, eo66⟩ := Kd.R_slice HO623.out; subst eo66) | ((with_reducible refine gate_callee (f := 15) rfl ?_); refine gl 89 Try.func15 #[.int .i64 a0, .agg #[.int .i64 t618, .int .i64 t619, .int .i64 t620], .slice Ao66 t621.length co66] ?_; (with_reducible refine (impl_CommutingOf.calls _ _ _ _ _ _ _ _ _ _ _ ?side1 ?side2 A59.out).mono ?_); (case side1 => exact ks (Kd.R_reads' HO623.out).2.2); (case side2 => exact (Kd.R_reads' HO623.out).2.1); rintro e w67 ⟨v625, rfl, ho0, hb⟩; refine ⟨_, rfl, ?_⟩; have HO626 := asd (Kd.R_lower (Kd.R_new' (Kd.R_new' (Kd.R_new' ho0 (Kd.R_lt (kr HO_8))) (Kd.R_lt (kr HO_11))) (Kd.R_lt (kr HO623))) (bsz1 HB GE585)); replace HO_8 := asd (Kd.R_elder' (kr HO_8) (Kd.R_base ho0) hb); replace HO_11 := asd (Kd.R_elder' (kr HO_11) (Kd.R_base ho0) hb); replace HO623 := asd (Kd.R_elder' (kr HO623) (Kd.R_base ho0) hb); replace BK585 := bB BK585 hb; replace HB := bS1 HB GE585 hb; (try clear hb); (try clear hb2); (try clear hk); (try clear hi); (try clear ho0)))
           (try simp only [Act.put, sA, sB, sC])
           go_cut [100] (fun v100 wc => ∃ (kq : Nat) (x100_59 : Bool), v100 = .bool x100_59 ∧ Aside0 (laws_FnExactCommutingOf.j2 kq t616 t615 x100_59 = some true) ∧ Aside0 (kq ≤ kj37) ∧ Aside0 (Kd.R k48 48 wc w.heap.size (fun _ => True) (.slice Ao61 t603.length co61) t616) ∧ Aside0 (wc.heap[gb585]? = some (.cells #[.int .i64 a1_0, .int .i64 a1_1, .int .i64 a1_2] 23 (0, 0))) ∧ Aside0 (Below w.heap.size w wc))
           case first =>
            have H := HC60.out
            clear HC60
            obtain ⟨t628, A68, H⟩ := ob H
            try dsimp only at H
            by_cases c69 : t628 = true
            subst c69
            replace H := ifT H
            have H' := Aside0.mk H
            clear H
            rotate_left
            replace c69 := Bool.eq_false_iff.mpr c69
            subst c69
            replace H := ifF H
            have H' := Aside0.mk H
            clear H
            rotate_left
            all_goals
             obtain ⟨Ao70, co70, eo70⟩ := Kd.R_slice HO626.out
             subst eo70
             obtain ⟨Ao71, co71, eo71⟩ := Kd.R_slice HO_8.out
             subst eo71
             go_wp2_with (first | ((with_reducible refine gate_callee (f := 11) rfl ?_); refine gl 94 Try.func11 #[.slice Ao70 t624.length co70, .slice Ao71 t593.length co71] ?_; (with_reducible refine (laws_eqMotionS.calls _ _ _ _ _ _ _ _ _ ?side1 ?side2 ?side3 ?side4 A68.out).mono ?_); (case side1 => exact ks (Kd.R_reads' HO626.out).2.2); (case side2 => exact (Kd.R_reads' HO626.out).2.1); (case side3 => exact ks (Kd.R_reads' HO_8.out).2.2); (case side4 => exact (Kd.R_reads' HO_8.out).2.1); rintro e w72 ⟨rfl, hb⟩; refine ⟨_, rfl, ?_⟩; replace HO_8 := asd (Kd.R_below (kr HO_8) hb); replace HO_11 := asd (Kd.R_below (kr HO_11) hb); replace HO623 := asd (Kd.R_below (kr HO623) hb); replace HO626 := asd (Kd.R_below (kr HO626) hb); replace BK585 := bB BK585 hb; replace HB := bS1 HB GE585 hb; (try clear hb)))
             go_meet
            ·case rel => exact ⟨_, ((t627 != t596)), (by first | rfl | (simp; done) | (simp [*]; done)), H', ⟨by have := HJ12.out; have := HJ37.out; first | omega | exact Nat.le_refl _⟩, ⟨by (with_reducible repeat (first | apply Kd.R_alloc | apply Kd.R_drewN | apply Kd.R_drew)); exact Kd.R_mono HO_11.out (fun _ hk => trivial)⟩, ⟨bkp BK585⟩, ⟨bbw1 HB GE585⟩⟩
            ·case rel => exact ⟨_, (true), (by first | rfl | (simp; done) | (simp [*]; done)), H', ⟨by have := HJ12.out; have := HJ37.out; first | omega | exact Nat.le_refl _⟩, ⟨by (with_reducible repeat (first | apply Kd.R_alloc | apply Kd.R_drewN | apply Kd.R_drew)); exact Kd.R_mono HO_11.out (fun _ hk => trivial)⟩, ⟨bkp BK585⟩, ⟨bbw1 HB GE585⟩⟩
           case rest =>
            clear HC60
            try clear c1
            try clear c2
            try clear p2
            try clear c3
            try clear c4
            try clear c5
            try clear c5b0
            try clear c6
            try clear c8
            try clear c9
            try clear c11
            try clear c12
            try clear c13
            try clear c14
            try clear c15
            try clear c26
            try clear c33
            try clear c36
            try clear c43
            try clear c43b0
            try clear c45
            try clear c52
            try clear c55
            try clear c55b0
            try clear c56
            try clear c56b0
            try clear c56b1
            try clear c69
            try clear hcz15_0
            try clear hcz15_1
            try clear hcz15_2
            try clear hcz21_0
            try clear hcz21_1
            try clear hcz21_2
            try clear hcz63_0
            try clear hcz63_1
            try clear hcz63_2
            try clear hfz15_0
            try clear hfz15_1
            try clear hfz15_2
            try clear hfz21_0
            try clear hfz21_1
            try clear hfz21_2
            try clear hfz63_0
            try clear hfz63_1
            try clear hfz63_2
            try clear p2
            obtain ⟨kq, x100_59, rfl, HA, HJ59, HO_11, BK585, HB⟩ := hcut
            have hl11_59 := (Kd.R_reads' HO_11.out).1
            rw [hl11_59] at HO_11
            (try simp only [hl11_59])
            (try simp only [hl11_59] at BK585)
            cases kq with
            | zero => exact absurd HA.out (by simp [laws_FnExactCommutingOf.j2])
            | succ kj59 =>
             have H := HA.out
             clear HA
             simp only [laws_FnExactCommutingOf.j2] at H
             by_cases c76 : x100_59 = true
             ·subst c76
              replace H := ifT H
              exact absurd H (by simp)
             ·replace c76 := Bool.eq_false_iff.mpr c76
              subst c76
              replace H := ifF H
              obtain ⟨t629, A77, H⟩ := ob H
              try dsimp only at H
              by_cases c78 : t629 < 0
              ·rw [if_pos c78] at H
               have c78b0 := decide_eq_true c78
               clear c78
               exact absurd H (by simp)
              ·rw [if_neg c78] at H
               have c78b0 := decide_eq_false c78
               clear c78
               by_cases c79 : t629 = t615
               ·rw [if_pos c79] at H
                have c79b0 : (t629 == t615) = true := beq_iff_eq.mpr c79
                have c79b1 : (t629 != t615) = false := bne_eq_false_iff_eq.mpr c79
                clear c79
                clear H
                go_wp2_with (first | ((with_reducible refine gate_callee (f := 13) rfl ?_); refine gl 103 Try.func13 #[.slice Ao61 t616.length co61, .int .i64 1] ?_; (with_reducible refine (laws_heldMotionS.calls _ _ _ _ _ _ _ ?side1 ?side2 A77.out).mono ?_); (case side1 => exact ks (Kd.R_reads' HO_11.out).2.2); (case side2 => exact (Kd.R_reads' HO_11.out).2.1); rintro e w' ⟨rfl, ⟨nd, rfl⟩⟩; refine ⟨_, rfl, ?_⟩))
                go_ret
                exact er (bbw1 HB GE585)
               ·rw [if_neg c79] at H
                have c79b0 : (t629 == t615) = false := beq_eq_false_iff_ne.mpr c79
                have c79b1 : (t629 != t615) = true := bne_iff_ne.mpr c79
                exact absurd H (by simp)
          ·rw [if_neg c56] at H
           have c56b0 : (t617 == t615) = false := beq_eq_false_iff_ne.mpr c56
           have c56b1 : (t617 != t615) = true := bne_iff_ne.mpr c56
           exact absurd H (by simp)
     ·replace c36 := Bool.eq_false_iff.mpr c36
      subst c36
      replace H := ifF H
      exact absurd H (by simp)

/-- The one plain statement of laws_FnExactCommutingOf. -/
def laws_FnExactCommutingOf.Pure : Prop := ∀ (a0 : Int) (a1_0 : Int) (a1_1 : Int) (a1_2 : Int) (l2 : List (S53)), (Lit.int .i64 a0).wf = true → (Lit.int .i64 a1_0).wf = true → (Lit.int .i64 a1_1).wf = true → (Lit.int .i64 a1_2).wf = true → l2.length ≤ maxLen → (∀ x ∈ l2, (Lit.int .i64 x.f0.f0).wf = true ∧ (Lit.int .i64 x.f0.f1).wf = true ∧ (Lit.int .i64 x.f0.f2).wf = true ∧ (Lit.int .i64 x.f0.f3).wf = true ∧ (Lit.int .i64 x.f1.f0).wf = true ∧ (Lit.int .i64 x.f1.f1).wf = true) → ∃ k, laws_FnExactCommutingOf.f k a0 a1_0 a1_1 a1_2 l2 = some true
end Go.Proofs.Ytilbokbfcmeleaa.PA
