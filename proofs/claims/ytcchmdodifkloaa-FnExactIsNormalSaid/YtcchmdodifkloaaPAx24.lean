/- Walks written by program: each Go function that the law reaches comes to the plain function beside it. -/
import Derived.Test.YtcchmdodifkloaaPAx0
import Derived.Test.YtcchmdodifkloaaPAx2
import Derived.Test.YtcchmdodifkloaaPAx5
import Derived.Test.YtcchmdodifkloaaPAx11
import Derived.Test.YtcchmdodifkloaaPAx15
import Derived.Test.YtcchmdodifkloaaPAx22
import Derived.Test.YtcchmdodifkloaaPAx23
namespace Go.Proofs.Ytcchmdodifkloaa.PA
open Go.RowKit Go.Proofs.YtcchmdodifkloaaW.PrintWords Go.Proofs.YtcchmdodifkloaaW.PrintLast Go.Proofs.YtcchmdodifkloaaW.PrintMore
attribute [local go_sem] max2_int min2_int max_two min_two max_three min_three max_four min_four   -- for this text's walks alone
set_option linter.unusedVariables false
set_option linter.unusedSimpArgs false

attribute [local go_sem high] eqA51
/-! ### laws_FnExactIsNormal: function 6 -/
def laws_FnExactIsNormal.j0 : Nat → List (S60) → List (S60) → List (S55) → List (S55) → Bool → Option (Bool)
 | 0, _, _, _, _, _ => none
 | k + 1, x2, x3, x12, x13, x57 => if x57 = true then (some false) else ((laws_toMotionS.f k x2).bind fun t821 => ((laws_eqMotionS.f k x12 t821).bind fun t824 => (if t824 = true then ((laws_toMotionS.f k x3).bind fun t825 => ((laws_eqMotionS.f k x13 t825).bind fun t828 => (if t828 = true then (some true) else (some false)))) else (some false))))
def laws_FnExactIsNormal.f (k : Nat) (a0 : Int) (a1_0 : Int) (a1_1 : Int) (a1_2 : Int) (l2 : List (S60)) (l3 : List (S60)) : Option (Bool) := (laws_szMotionS.f l2 1048576).bind fun t797 => (if t797 < 0 then (some true) else ((laws_szMotionS.f l3 t797).bind fun t798 => (if t798 < 0 then (some true) else ((laws_toLattice.f a1_0 a1_1 a1_2).bind fun bt799 => ((laws_toMotionS.f k l2).bind fun t802 => ((laws_toMotionS.f k l3).bind fun t805 => ((spec_IsNormal.f k a0 bt799.1 bt799.2.1 bt799.2.2 t802 t805).bind fun bt808 => ((laws_toMotionS.f k l2).bind fun t810 => ((laws_toMotionS.f k l3).bind fun t813 => ((laws_toLattice.f a1_0 a1_1 a1_2).bind fun bt816 => ((impl_IsNormal.f k a0 bt816.1 bt816.2.1 bt816.2.2 t810 t813).bind fun bt819 => (if (bt819.1 != bt808.1) = true then (laws_FnExactIsNormal.j0 k l2 l3 t810 t813 true) else (laws_FnExactIsNormal.j0 k l2 l3 t810 t813 (bt819.2 != bt808.2))))))))))))))
set_option maxHeartbeats 8000000 in
set_option maxRecDepth 100000 in
theorem laws_FnExactIsNormal.calls (k : Nat) (a0 : Int) (a1_0 : Int) (a1_1 : Int) (a1_2 : Int) (A2 : Option Addr) (c2 : Nat) (l2 : List (S60)) (A3 : Option Addr) (c3 : Nat) (l3 : List (S60)) (w : World) (hr2 : Kd.C k60 w A2 l2.length l2) (hc2 : l2.length ≤ c2) (hr3 : Kd.C k60 w A3 l3.length l3) (hc3 : l3.length ≤ c3) (h : laws_FnExactIsNormal.f k a0 a1_0 a1_1 a1_2 l2 l3 = some true) :
  Calls Try.prog 6 #[.int .i64 a0, .agg #[.int .i64 a1_0, .int .i64 a1_1, .int .i64 a1_2], .slice A2 l2.length c2, .slice A3 l3.length c3] w fun e w' => e = .returned (.bool true) ∧ Below w.heap.size w w' := by
 have hu23 := Try.underlying23
 have HR2 := Aside0.mk hr2
 have HC2 := Aside0.mk hc2
 clear hr2 hc2
 have HR3 := Aside0.mk hr3
 have HC3 := Aside0.mk hc3
 clear hr3 hc3
 have HB := asd (Below.refl w.heap.size w)
 have H : ((laws_szMotionS.f l2 1048576).bind fun t797 => (if t797 < 0 then (some true) else ((laws_szMotionS.f l3 t797).bind fun t798 => (if t798 < 0 then (some true) else ((laws_toLattice.f a1_0 a1_1 a1_2).bind fun bt799 => ((laws_toMotionS.f k l2).bind fun t802 => ((laws_toMotionS.f k l3).bind fun t805 => ((spec_IsNormal.f k a0 bt799.1 bt799.2.1 bt799.2.2 t802 t805).bind fun bt808 => ((laws_toMotionS.f k l2).bind fun t810 => ((laws_toMotionS.f k l3).bind fun t813 => ((laws_toLattice.f a1_0 a1_1 a1_2).bind fun bt816 => ((impl_IsNormal.f k a0 bt816.1 bt816.2.1 bt816.2.2 t810 t813).bind fun bt819 => (if (bt819.1 != bt808.1) = true then (laws_FnExactIsNormal.j0 k l2 l3 t810 t813 true) else (laws_FnExactIsNormal.j0 k l2 l3 t810 t813 (bt819.2 != bt808.2))))))))))))))) = some true := h
 clear h
 obtain ⟨t797, A5, H⟩ := ob H
 try dsimp only at H
 by_cases c6 : t797 < 0
 rw [if_pos c6] at H
 have c6b0 := decide_eq_true c6
 clear c6
 clear H
 rotate_left
 rw [if_neg c6] at H
 have c6b0 := decide_eq_false c6
 clear c6
 obtain ⟨t798, A8, H⟩ := ob H
 try dsimp only at H
 by_cases c9 : t798 < 0
 rw [if_pos c9] at H
 have c9b0 := decide_eq_true c9
 clear c9
 clear H
 rotate_left
 rw [if_neg c9] at H
 have c9b0 := decide_eq_false c9
 clear c9
 obtain ⟨⟨t799, t800, t801⟩, A11, H⟩ := ob H
 try dsimp only at H
 obtain ⟨t802, A12, H⟩ := ob H
 try dsimp only at H
 obtain ⟨t805, A13, H⟩ := ob H
 try dsimp only at H
 obtain ⟨⟨t808, t809⟩, A14, H⟩ := ob H
 try dsimp only at H
 obtain ⟨t810, A15, H⟩ := ob H
 try dsimp only at H
 obtain ⟨t813, A16, H⟩ := ob H
 try dsimp only at H
 obtain ⟨⟨t816, t817, t818⟩, A17, H⟩ := ob H
 try dsimp only at H
 obtain ⟨⟨t819, t820⟩, A18, H⟩ := ob H
 try dsimp only at H
 rotate_left
 rotate_left 2
 ·have HC19 := Aside0.mk H
  clear H
  go_enter Try.func6, Try.ntmps6
  go_upto_region 12 with (first | ((with_reducible refine gd 5 rfl ?_); refine bx #[.int .i64 a1_0, .int .i64 a1_1, .int .i64 a1_2] 23 ?_; intro gb796 hg w20 BK796 hb; have GE796 := ngw0 hg HB; replace HB := bS0 HB hb; clear hb hg) | ((with_reducible refine gate_callee (f := 8) rfl ?_); refine gl 18 Try.func8 #[.slice A2 l2.length c2, .int .i64 1048576] ?_; (with_reducible refine (laws_szMotionS.calls _ _ _ _ _ _ ?side1 ?side2 A5.out).mono ?_); (case side1 => exact ks (Kd.C_below HR2.out HB.out)); (case side2 => exact HC2.out); rintro e w' ⟨rfl, ⟨nd, rfl⟩⟩; refine ⟨_, rfl, ?_⟩) | ((with_reducible refine gate_callee (f := 8) rfl ?_); refine gl 23 Try.func8 #[.slice A3 l3.length c3, .int .i64 t797] ?_; (with_reducible refine (laws_szMotionS.calls _ _ _ _ _ _ ?side1 ?side2 A8.out).mono ?_); (case side1 => exact ks (Kd.C_below HR3.out (bbw1 HB GE796))); (case side2 => exact HC3.out); rintro e w' ⟨rfl, ⟨nd, rfl⟩⟩; refine ⟨_, rfl, ?_⟩; have hcz21_0 : w20.cell? ⟨gb796, 0, none⟩ = some (.int .i64 a1_0) := bcl BK796 0; have hcz21_1 : w20.cell? ⟨gb796, 1, none⟩ = some (.int .i64 a1_1) := bcl BK796 1; have hcz21_2 : w20.cell? ⟨gb796, 2, none⟩ = some (.int .i64 a1_2) := bcl BK796 2; have hfz21_0 := blk_frozen BK796.out 0; have hfz21_1 := blk_frozen BK796.out 1; have hfz21_2 := blk_frozen BK796.out 2) | ((with_reducible refine gate_callee (f := 10) rfl ?_); refine gl 29 Try.func10 #[.agg #[.int .i64 a1_0, .int .i64 a1_1, .int .i64 a1_2]] ?_; (with_reducible refine (laws_toLattice.calls _ _ _ _ _ _ _ A11.out).mono ?_); rintro e w22 ⟨rfl, hb⟩; refine ⟨_, rfl, ?_⟩; replace BK796 := bB BK796 hb; replace HB := bS1 HB GE796 hb; (try clear hb)) | ((with_reducible refine gate_callee (f := 11) rfl ?_); refine gl 31 Try.func11 #[.slice A2 l2.length c2] ?_; (with_reducible refine (laws_toMotionS.calls _ _ _ _ _ _ ?side1 ?side2 A12.out).mono ?_); (case side1 => exact ks (Kd.C_below HR2.out HB.out)); (case side2 => exact HC2.out); rintro e w23 ⟨v803, rfl, ho0, hb⟩; refine ⟨_, rfl, ?_⟩; have HO804 := asd (Kd.R_lower ho0 (bsz1 HB GE796)); replace BK796 := bB BK796 hb; replace HB := bS1 HB GE796 hb; (try clear hb); (try clear hb2); (try clear hk); (try clear hi); (try clear ho0)) | ((with_reducible refine gate_callee (f := 11) rfl ?_); refine gl 33 Try.func11 #[.slice A3 l3.length c3] ?_; (with_reducible refine (laws_toMotionS.calls _ _ _ _ _ _ ?side1 ?side2 A13.out).mono ?_); (case side1 => exact ks (Kd.C_below HR3.out HB.out)); (case side2 => exact HC3.out); rintro e w24 ⟨v806, rfl, ho0, hb⟩; refine ⟨_, rfl, ?_⟩; have HO807 := asd (Kd.R_lower (Kd.R_new' ho0 (Kd.R_lt (kr HO804))) (bsz1 HB GE796)); replace HO804 := asd (Kd.R_elder' (kr HO804) (Kd.R_base ho0) hb); replace BK796 := bB BK796 hb; replace HB := bS1 HB GE796 hb; (try clear hb); (try clear hb2); (try clear hk); (try clear hi); (try clear ho0); obtain ⟨Ao25, co25, eo25⟩ := Kd.R_slice HO804.out; subst eo25; obtain ⟨Ao26, co26, eo26⟩ := Kd.R_slice HO807.out; subst eo26) | ((with_reducible refine gate_callee (f := 22) rfl ?_); refine gl 34 Try.func22 #[.int .i64 a0, .agg #[.int .i64 t799, .int .i64 t800, .int .i64 t801], .slice Ao25 t802.length co25, .slice Ao26 t805.length co26] ?_; (with_reducible refine (spec_IsNormal.calls _ _ _ _ _ _ _ _ _ _ _ _ _ _ ?side1 ?side2 ?side3 ?side4 A14.out).mono ?_); (case side1 => exact ks (Kd.R_reads' HO804.out).2.2); (case side2 => exact (Kd.R_reads' HO804.out).2.1); (case side3 => exact ks (Kd.R_reads' HO807.out).2.2); (case side4 => exact (Kd.R_reads' HO807.out).2.1); rintro e w27 ⟨rfl, hb⟩; refine ⟨_, rfl, ?_⟩; replace HO804 := asd (Kd.R_below (kr HO804) hb); replace HO807 := asd (Kd.R_below (kr HO807) hb); replace BK796 := bB BK796 hb; replace HB := bS1 HB GE796 hb; (try clear hb)) | ((with_reducible refine gate_callee (f := 11) rfl ?_); refine gl 38 Try.func11 #[.slice A2 l2.length c2] ?_; (with_reducible refine (laws_toMotionS.calls _ _ _ _ _ _ ?side1 ?side2 A15.out).mono ?_); (case side1 => exact ks (Kd.C_below HR2.out HB.out)); (case side2 => exact HC2.out); rintro e w28 ⟨v811, rfl, ho0, hb⟩; refine ⟨_, rfl, ?_⟩; have HO812 := asd (Kd.R_lower (Kd.R_new' (Kd.R_new' ho0 (Kd.R_lt (kr HO804))) (Kd.R_lt (kr HO807))) (bsz1 HB GE796)); replace HO804 := asd (Kd.R_elder' (kr HO804) (Kd.R_base ho0) hb); replace HO807 := asd (Kd.R_elder' (kr HO807) (Kd.R_base ho0) hb); replace BK796 := bB BK796 hb; replace HB := bS1 HB GE796 hb; (try clear hb); (try clear hb2); (try clear hk); (try clear hi); (try clear ho0)) | ((with_reducible refine gate_callee (f := 11) rfl ?_); refine gl 40 Try.func11 #[.slice A3 l3.length c3] ?_; (with_reducible refine (laws_toMotionS.calls _ _ _ _ _ _ ?side1 ?side2 A16.out).mono ?_); (case side1 => exact ks (Kd.C_below HR3.out HB.out)); (case side2 => exact HC3.out); rintro e w29 ⟨v814, rfl, ho0, hb⟩; refine ⟨_, rfl, ?_⟩; have HO815 := asd (Kd.R_lower (Kd.R_new' (Kd.R_new' (Kd.R_new' ho0 (Kd.R_lt (kr HO804))) (Kd.R_lt (kr HO807))) (Kd.R_lt (kr HO812))) (bsz1 HB GE796)); replace HO804 := asd (Kd.R_elder' (kr HO804) (Kd.R_base ho0) hb); replace HO807 := asd (Kd.R_elder' (kr HO807) (Kd.R_base ho0) hb); replace HO812 := asd (Kd.R_elder' (kr HO812) (Kd.R_base ho0) hb); replace BK796 := bB BK796 hb; replace HB := bS1 HB GE796 hb; (try clear hb); (try clear hb2); (try clear hk); (try clear hi); (try clear ho0); obtain ⟨hcz30_0, hcz30_1, hcz30_2, hfz30_0, hfz30_1, hfz30_2⟩ := bz3 BK796) | ((with_reducible refine gate_callee (f := 10) rfl ?_); refine gl 44 Try.func10 #[.agg #[.int .i64 a1_0, .int .i64 a1_1, .int .i64 a1_2]] ?_; (with_reducible refine (laws_toLattice.calls _ _ _ _ _ _ _ A17.out).mono ?_); rintro e w31 ⟨rfl, hb⟩; refine ⟨_, rfl, ?_⟩; replace HO804 := asd (Kd.R_below (kr HO804) hb); replace HO807 := asd (Kd.R_below (kr HO807) hb); replace HO812 := asd (Kd.R_below (kr HO812) hb); replace HO815 := asd (Kd.R_below (kr HO815) hb); replace BK796 := bB BK796 hb; replace HB := bS1 HB GE796 hb; (try clear hb); obtain ⟨Ao32, co32, eo32⟩ := Kd.R_slice HO812.out; subst eo32; obtain ⟨Ao33, co33, eo33⟩ := Kd.R_slice HO815.out; subst eo33) | ((with_reducible refine gate_callee (f := 23) rfl ?_); refine gl 47 Try.func23 #[.int .i64 a0, .agg #[.int .i64 t816, .int .i64 t817, .int .i64 t818], .slice Ao32 t810.length co32, .slice Ao33 t813.length co33] ?_; (with_reducible refine (impl_IsNormal.calls _ _ _ _ _ _ _ _ _ _ _ _ _ _ ?side1 ?side2 ?side3 ?side4 A18.out).mono ?_); (case side1 => exact ks (Kd.R_reads' HO812.out).2.2); (case side2 => exact (Kd.R_reads' HO812.out).2.1); (case side3 => exact ks (Kd.R_reads' HO815.out).2.2); (case side4 => exact (Kd.R_reads' HO815.out).2.1); rintro e w34 ⟨rfl, hb⟩; refine ⟨_, rfl, ?_⟩; replace HO804 := asd (Kd.R_below (kr HO804) hb); replace HO807 := asd (Kd.R_below (kr HO807) hb); replace HO812 := asd (Kd.R_below (kr HO812) hb); replace HO815 := asd (Kd.R_below (kr HO815) hb); replace BK796 := bB BK796 hb; replace HB := bS1 HB GE796 hb; (try clear hb)))
  (try simp only [Act.put, sA, sB, sC])
  go_cut [57] (fun v57 wc => ∃ (kq : Nat) (x57_18 : Bool), v57 = .bool x57_18 ∧ Aside0 (laws_FnExactIsNormal.j0 kq l2 l3 t810 t813 x57_18 = some true) ∧ Aside0 (kq ≤ k) ∧ Aside0 (Kd.R k55 55 wc w.heap.size (fun k_ => some k_ ≠ ((.slice Ao33 t813.length co33) : Value).ownBlock) (.slice Ao32 t810.length co32) t810) ∧ Aside0 (Kd.R k55 55 wc w.heap.size (fun k_ => some k_ ≠ ((.slice Ao32 t810.length co32) : Value).ownBlock) (.slice Ao33 t813.length co33) t813) ∧ Aside0 (wc.heap[gb796]? = some (.cells #[.int .i64 a1_0, .int .i64 a1_1, .int .i64 a1_2] 23 (0, 0))) ∧ Aside0 (Below w.heap.size w wc))
  case first =>
   have H := HC19.out
   clear HC19
   by_cases c35 : (t819 != t808) = true
   ·rw [if_pos c35] at H
    have c35b0 := c35
    (try (have c35b1 : decide (t819 = t808) = false := by simpa using c35))
    (try (have c35b2 : (t819 == t808) = false := by simpa using c35))
    (try (have c35b3 : ¬ (t819 = t808) := by simpa using c35))
    clear c35
    (first | rw [c35b0] | (simp only [i64_w, i32_w]; rw [c35b0]) | skip)
    have H' := Aside0.mk H
    clear H
    go_wp2
    go_meet
    case rel => exact ⟨_, (true), (by first | rfl | (simp; done) | (simp [*]; done)), H', ⟨by first | omega | exact Nat.le_refl _⟩, ⟨by (with_reducible repeat (first | apply Kd.R_alloc | apply Kd.R_drewN | apply Kd.R_drew)); exact Kd.R_mono HO812.out (fun _ hk => hk.2)⟩, ⟨by (with_reducible repeat (first | apply Kd.R_alloc | apply Kd.R_drewN | apply Kd.R_drew)); exact Kd.R_mono HO815.out (fun _ hk => hk.2)⟩, ⟨bkp BK796⟩, ⟨bbw1 HB GE796⟩⟩
   ·rw [if_neg c35] at H
    have c35b0 : (t819 != t808) = false := by simpa using c35
    (try (have c35b1 : decide (t819 = t808) = true := by simpa using c35))
    (try (have c35b2 : (t819 == t808) = true := by simpa using c35))
    clear c35
    (first | rw [c35b0] | (simp only [i64_w, i32_w]; rw [c35b0]) | skip)
    have H' := Aside0.mk H
    clear H
    go_wp2
    go_meet
    case rel => exact ⟨_, ((t820 != t809)), (by first | rfl | (simp; done) | (simp [*]; done)), H', ⟨by first | omega | exact Nat.le_refl _⟩, ⟨by (with_reducible repeat (first | apply Kd.R_alloc | apply Kd.R_drewN | apply Kd.R_drew)); exact Kd.R_mono HO812.out (fun _ hk => hk.2)⟩, ⟨by (with_reducible repeat (first | apply Kd.R_alloc | apply Kd.R_drewN | apply Kd.R_drew)); exact Kd.R_mono HO815.out (fun _ hk => hk.2)⟩, ⟨bkp BK796⟩, ⟨bbw1 HB GE796⟩⟩
  case rest =>
   clear HC19
   try clear c1
   try clear c2
   try clear p2
   try clear c3
   try clear c6
   try clear c6b0
   try clear c8
   try clear c9
   try clear c9b0
   try clear c10
   try clear c11
   try clear c22
   try clear c23
   try clear c35
   try clear c35b0
   try clear c35b1
   try clear c35b2
   try clear hcz21_0
   try clear hcz21_1
   try clear hcz21_2
   try clear hcz30_0
   try clear hcz30_1
   try clear hcz30_2
   try clear hfz21_0
   try clear hfz21_1
   try clear hfz21_2
   try clear hfz30_0
   try clear hfz30_1
   try clear hfz30_2
   obtain ⟨kq, x57_18, rfl, HA, HJ18, HO_12, HO_13, BK796, HB⟩ := hcut
   cases kq with
   | zero => exact absurd HA.out (by simp [laws_FnExactIsNormal.j0])
   | succ kj18 =>
    have H := HA.out
    clear HA
    simp only [laws_FnExactIsNormal.j0] at H
    by_cases c36 : x57_18 = true
    ·subst c36
     replace H := ifT H
     exact absurd H (by simp)
    ·replace c36 := Bool.eq_false_iff.mpr c36
     subst c36
     replace H := ifF H
     obtain ⟨t821, A37, H⟩ := ob H
     try dsimp only at H
     obtain ⟨t824, A38, H⟩ := ob H
     try dsimp only at H
     by_cases c39 : t824 = true
     ·subst c39
      replace H := ifT H
      obtain ⟨t825, A40, H⟩ := ob H
      try dsimp only at H
      obtain ⟨t828, A41, H⟩ := ob H
      try dsimp only at H
      by_cases c42 : t828 = true
      ·subst c42
       replace H := ifT H
       clear H
       go_wp2_with (first | ((with_reducible refine gate_callee (f := 11) rfl ?_); refine gl 60 Try.func11 #[.slice A2 l2.length c2] ?_; (with_reducible refine (laws_toMotionS.calls _ _ _ _ _ _ ?side1 ?side2 A37.out).mono ?_); (case side1 => exact ks (Kd.C_below HR2.out HB.out)); (case side2 => exact HC2.out); rintro e w43 ⟨v822, rfl, ho0, hb⟩; refine ⟨_, rfl, ?_⟩; have HO823 := asd (Kd.R_lower (Kd.R_new' (Kd.R_new' ho0 (Kd.R_lt (kr HO_12))) (Kd.R_lt (kr HO_13))) (bsz1 HB GE796)); replace HO_12 := asd (Kd.R_elder' (kr HO_12) (Kd.R_base ho0) hb); replace HO_13 := asd (Kd.R_elder' (kr HO_13) (Kd.R_base ho0) hb); replace BK796 := bB BK796 hb; replace HB := bS1 HB GE796 hb; (try clear hb); (try clear hb2); (try clear hk); (try clear hi); (try clear ho0); obtain ⟨Ao44, co44, eo44⟩ := Kd.R_slice HO823.out; subst eo44) | ((with_reducible refine gate_callee (f := 13) rfl ?_); refine gl 61 Try.func13 #[.slice Ao32 t810.length co32, .slice Ao44 t821.length co44] ?_; (with_reducible refine (laws_eqMotionS.calls _ _ _ _ _ _ _ _ _ ?side1 ?side2 ?side3 ?side4 A38.out).mono ?_); (case side1 => exact ks (Kd.R_reads' HO_12.out).2.2); (case side2 => exact (Kd.R_reads' HO_12.out).2.1); (case side3 => exact ks (Kd.R_reads' HO823.out).2.2); (case side4 => exact (Kd.R_reads' HO823.out).2.1); rintro e w45 ⟨rfl, hb⟩; refine ⟨_, rfl, ?_⟩; replace HO_12 := asd (Kd.R_below (kr HO_12) hb); replace HO_13 := asd (Kd.R_below (kr HO_13) hb); replace HO823 := asd (Kd.R_below (kr HO823) hb); replace BK796 := bB BK796 hb; replace HB := bS1 HB GE796 hb; (try clear hb)) | ((with_reducible refine gate_callee (f := 11) rfl ?_); refine gl 65 Try.func11 #[.slice A3 l3.length c3] ?_; (with_reducible refine (laws_toMotionS.calls _ _ _ _ _ _ ?side1 ?side2 A40.out).mono ?_); (case side1 => exact ks (Kd.C_below HR3.out HB.out)); (case side2 => exact HC3.out); rintro e w46 ⟨v826, rfl, ho0, hb⟩; refine ⟨_, rfl, ?_⟩; have HO827 := asd (Kd.R_lower (Kd.R_new' (Kd.R_new' (Kd.R_new' ho0 (Kd.R_lt (kr HO_12))) (Kd.R_lt (kr HO_13))) (Kd.R_lt (kr HO823))) (bsz1 HB GE796)); replace HO_12 := asd (Kd.R_elder' (kr HO_12) (Kd.R_base ho0) hb); replace HO_13 := asd (Kd.R_elder' (kr HO_13) (Kd.R_base ho0) hb); replace HO823 := asd (Kd.R_elder' (kr HO823) (Kd.R_base ho0) hb); replace BK796 := bB BK796 hb; replace HB := bS1 HB GE796 hb; (try clear hb); (try clear hb2); (try clear hk); (try clear hi); (try clear ho0); obtain ⟨Ao47, co47, eo47⟩ := Kd.R_slice HO827.out; subst eo47) | ((with_reducible refine gate_callee (f := 13) rfl ?_); refine gl 66 Try.func13 #[.slice Ao33 t813.length co33, .slice Ao47 t825.length co47] ?_; (with_reducible refine (laws_eqMotionS.calls _ _ _ _ _ _ _ _ _ ?side1 ?side2 ?side3 ?side4 A41.out).mono ?_); (case side1 => exact ks (Kd.R_reads' HO_13.out).2.2); (case side2 => exact (Kd.R_reads' HO_13.out).2.1); (case side3 => exact ks (Kd.R_reads' HO827.out).2.2); (case side4 => exact (Kd.R_reads' HO827.out).2.1); rintro e w48 ⟨rfl, hb⟩; refine ⟨_, rfl, ?_⟩; replace HO_12 := asd (Kd.R_below (kr HO_12) hb); replace HO_13 := asd (Kd.R_below (kr HO_13) hb); replace HO823 := asd (Kd.R_below (kr HO823) hb); replace HO827 := asd (Kd.R_below (kr HO827) hb); replace BK796 := bB BK796 hb; replace HB := bS1 HB GE796 hb; (try clear hb)))
       go_ret
       exact er (bbw1 HB GE796)
      ·replace c42 := Bool.eq_false_iff.mpr c42
       subst c42
       replace H := ifF H
       exact absurd H (by simp)
     ·replace c39 := Bool.eq_false_iff.mpr c39
      subst c39
      replace H := ifF H
      exact absurd H (by simp)
 all_goals
  go_enter Try.func6, Try.ntmps6
  go_wp2_with (first | ((with_reducible refine gd 5 rfl ?_); refine bx #[.int .i64 a1_0, .int .i64 a1_1, .int .i64 a1_2] 23 ?_; intro gb796 hg w7 BK796 hb; have GE796 := ngw0 hg HB; replace HB := bS0 HB hb; clear hb hg) | ((with_reducible refine gate_callee (f := 8) rfl ?_); refine gl 18 Try.func8 #[.slice A2 l2.length c2, .int .i64 1048576] ?_; (with_reducible refine (laws_szMotionS.calls _ _ _ _ _ _ ?side1 ?side2 A5.out).mono ?_); (case side1 => exact ks (Kd.C_below HR2.out HB.out)); (case side2 => exact HC2.out); rintro e w' ⟨rfl, ⟨nd, rfl⟩⟩; refine ⟨_, rfl, ?_⟩) | ((with_reducible refine gate_callee (f := 8) rfl ?_); refine gl 23 Try.func8 #[.slice A3 l3.length c3, .int .i64 t797] ?_; (with_reducible refine (laws_szMotionS.calls _ _ _ _ _ _ ?side1 ?side2 A8.out).mono ?_); (case side1 => exact ks (Kd.C_below HR3.out (bbw1 HB GE796))); (case side2 => exact HC3.out); rintro e w' ⟨rfl, ⟨nd, rfl⟩⟩; refine ⟨_, rfl, ?_⟩))
  go_ret
  exact er (bbw1 HB GE796)

/-- The one plain statement of laws_FnExactIsNormal. -/
def laws_FnExactIsNormal.Pure : Prop := ∀ (a0 : Int) (a1_0 : Int) (a1_1 : Int) (a1_2 : Int) (l2 : List (S60)) (l3 : List (S60)), (Lit.int .i64 a0).wf = true → (Lit.int .i64 a1_0).wf = true → (Lit.int .i64 a1_1).wf = true → (Lit.int .i64 a1_2).wf = true → l2.length ≤ maxLen → (∀ x ∈ l2, (Lit.int .i64 x.f0.f0).wf = true ∧ (Lit.int .i64 x.f0.f1).wf = true ∧ (Lit.int .i64 x.f0.f2).wf = true ∧ (Lit.int .i64 x.f0.f3).wf = true ∧ (Lit.int .i64 x.f1.f0).wf = true ∧ (Lit.int .i64 x.f1.f1).wf = true) → l3.length ≤ maxLen → (∀ x ∈ l3, (Lit.int .i64 x.f0.f0).wf = true ∧ (Lit.int .i64 x.f0.f1).wf = true ∧ (Lit.int .i64 x.f0.f2).wf = true ∧ (Lit.int .i64 x.f0.f3).wf = true ∧ (Lit.int .i64 x.f1.f0).wf = true ∧ (Lit.int .i64 x.f1.f1).wf = true) → ∃ k, laws_FnExactIsNormal.f k a0 a1_0 a1_1 a1_2 l2 l3 = some true
end Go.Proofs.Ytcchmdodifkloaa.PA
