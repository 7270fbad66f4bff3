/- Walks written by program: each Go function that the law reaches comes to the plain function beside it. -/
import Derived.Test.YtcchmdodifkloaaPAx0
import Derived.Test.YtcchmdodifkloaaPAx2
import Derived.Test.YtcchmdodifkloaaPAx10
import Derived.Test.YtcchmdodifkloaaPAx14
namespace Go.Proofs.Ytcchmdodifkloaa.PA
open Go.RowKit Go.Proofs.YtcchmdodifkloaaW.PrintWords Go.Proofs.YtcchmdodifkloaaW.PrintLast Go.Proofs.YtcchmdodifkloaaW.PrintMore
attribute [local go_sem] max2_int min2_int max_two min_two max_three min_three max_four min_four   -- for this text's walks alone
set_option linter.unusedVariables false
set_option linter.unusedSimpArgs false

attribute [local go_sem high] eqA51
/-! ### impl_groupCode: function 32 -/
def impl_groupCode.l0 : Nat → Int → List (List (S55)) → Int → Int → Int → Int → Int → Option (Int)
 | 0, _, _, _, _, _, _, _ => none
 | k + 1, x0, x16, x17, x18, x486000, x486001, x486002 => if x18 < x17 then (if 0 ≤ x18 then (if x18 < (x16.length : Int) then ((impl_isGroup.f k x0 x486000 x486001 x486002 (rd_L9 x16 x18)).bind fun t488 => (if t488 = true then (impl_groupCode.l0 k x0 x16 x17 (wrap64 (x18 + 1)) x486000 x486001 x486002) else (some 2))) else (none)) else (none)) else (some 0)
def impl_groupCode.f (k : Nat) (a0 : Int) (a1_0 : Int) (a1_1 : Int) (a1_2 : Int) (l2 : List (List (S55))) : Option (Int) := (impl_frameCode.f a0 a1_0 a1_1 a1_2).bind fun t486 => (if t486 = 0 then (impl_groupCode.l0 k a0 l2 (l2.length : Int) 0 a1_0 a1_1 a1_2) else (some t486))
set_option maxHeartbeats 8000000 in
set_option maxRecDepth 100000 in
theorem impl_groupCode.calls (k : Nat) (a0 : Int) (a1_0 : Int) (a1_1 : Int) (a1_2 : Int) (A2 : Option Addr) (c2 : Nat) (l2 : List (List (S55))) (r : Int) (w : World) (hr2 : Kd.C (Kd.slice 55 k55) w A2 l2.length l2) (hc2 : l2.length ≤ c2) (h : impl_groupCode.f k a0 a1_0 a1_1 a1_2 l2 = some r) :
  Calls Try.prog 32 #[.int .i64 a0, .agg #[.int .i64 a1_0, .int .i64 a1_1, .int .i64 a1_2], .slice A2 l2.length c2] w fun e w' => e = .returned (.int .i64 r) ∧ Below w.heap.size w w' := by
 have hu27 := Try.underlying27
 have HR2 := Aside0.mk hr2
 have HC2 := Aside0.mk hc2
 clear hr2 hc2
 have HB := asd (Below.refl w.heap.size w)
 have H : ((impl_frameCode.f a0 a1_0 a1_1 a1_2).bind fun t486 => (if t486 = 0 then (impl_groupCode.l0 k a0 l2 (l2.length : Int) 0 a1_0 a1_1 a1_2) else (some t486))) = some r := h
 clear h
 obtain ⟨t486, A4, H⟩ := ob H
 replace H : (if t486 = 0 then (impl_groupCode.l0 k a0 l2 (l2.length : Int) 0 a1_0 a1_1 a1_2) else (some t486)) = some r := H
 by_cases c5 : t486 = 0
 ·rw [if_pos c5] at H
  have c5b0 : (t486 == 0) = true := beq_iff_eq.mpr c5
  have c5b1 : (t486 != 0) = false := bne_eq_false_iff_eq.mpr c5
  clear c5
  have H' := Aside0.mk H
  clear H
  go_enter Try.func32, Try.ntmps32
  go_wp2_with (first | ((with_reducible refine gd 4 rfl ?_); refine bx #[.int .i64 a1_0, .int .i64 a1_1, .int .i64 a1_2] 27 ?_; intro gb485 hg w6 BK485 hb; have GE485 := ngw0 hg HB; replace HB := bS0 HB hb; clear hb hg; obtain ⟨hcz7_0, hcz7_1, hcz7_2, hfz7_0, hfz7_1, hfz7_2⟩ := bz3 BK485) | ((with_reducible refine gate_callee (f := 63) rfl ?_); refine gl 12 Try.func63 #[.int .i64 a0, .agg #[.int .i64 a1_0, .int .i64 a1_1, .int .i64 a1_2]] ?_; (with_reducible refine (impl_frameCode.calls _ _ _ _ _ _ A4.out).mono ?_); rintro e w8 ⟨rfl, hb⟩; refine ⟨_, rfl, ?_⟩; replace BK485 := bB BK485 hb; replace HB := bS1 HB GE485 hb; (try clear hb)))
  go_loopg [18] k (fun kq v18 w' => ∃ (x18_1 : Int), v18 = .int .i64 x18_1 ∧ Aside0 (impl_groupCode.l0 kq a0 l2 (l2.length : Int) x18_1 a1_0 a1_1 a1_2 = some r) ∧ Aside0 (kq ≤ k) ∧ Aside0 (w'.heap[gb485]? = some (.cells #[.int .i64 a1_0, .int .i64 a1_1, .int .i64 a1_2] 27 (0, 0))) ∧ Aside0 (Below w.heap.size w w'))
  case atStart => exact ⟨(0), (by first | rfl | (simp; done) | (simp [*]; done)), H', ⟨Nat.le_refl _⟩, ⟨bkp BK485⟩, ⟨bbw1 HB GE485⟩⟩
  case round =>
   clear H'
   try clear c2
   try clear p2
   try clear c3
   try clear c5
   try clear c5b0
   try clear c5b1
   try clear c6
   try clear hcz7_0
   try clear hcz7_1
   try clear hcz7_2
   try clear hfz7_0
   try clear hfz7_1
   try clear hfz7_2
   obtain ⟨x18_1, rfl, HA, HK1, BK485, HB⟩ := hrel
   cases gk with
   | zero => exact absurd HA.out (by simp [impl_groupCode.l0])
   | succ k1 =>
    have H := HA.out
    clear HA
    simp only [impl_groupCode.l0] at H
    by_cases c9 : x18_1 < (l2.length : Int)
    ·rw [if_pos c9] at H
     have c9b0 : decide (x18_1 < (l2.length : Int)) = true := decide_eq_true c9
     clear c9
     by_cases c10 : 0 ≤ x18_1
     ·rw [if_pos c10] at H
      have c10b0 : decide (0 ≤ x18_1) = true := decide_eq_true c10
      clear c10
      by_cases c11 : x18_1 < (l2.length : Int)
      ·rw [if_pos c11] at H
       have c11b0 : decide (x18_1 < (l2.length : Int)) = true := decide_eq_true c11
       clear c11
       obtain ⟨t488, A12, H⟩ := ob H
       replace H : (if t488 = true then (impl_groupCode.l0 k1 a0 l2 (l2.length : Int) (wrap64 (x18_1 + 1)) a1_0 a1_1 a1_2) else (some 2)) = some r := H
       by_cases c13 : t488 = true
       ·subst c13
        have H1 : (impl_groupCode.l0 k1 a0 l2 (l2.length : Int) (wrap64 (x18_1 + 1)) a1_0 a1_1 a1_2) = some r := by rw [if_pos rfl] at H; first | done | exact H
        clear H
        have H := H1
        clear H1
        have H' := Aside0.mk H
        clear H
        have p487 : 0 ≤ (x18_1 : Int) := od
        have q487 : x18_1 < (l2.length : Int) := od
        obtain ⟨ad487, A487_0, c487_0, e487, hx487_0, hl487_0, hi487_0⟩ := at_L9 HR2.out x18_1 p487 q487
        cases e487
        replace hx487_0 := xb HB hx487_0
        have HR487_0 := Aside0.mk hi487_0
        have HC487_0 := Aside0.mk hl487_0
        clear hi487_0 hl487_0
        replace p487 := eq_true p487
        replace q487 := eq_true q487
        obtain ⟨hcz14_0, hcz14_1, hcz14_2, hfz14_0, hfz14_1, hfz14_2⟩ := bz3 BK485
        go_wp2_with (first | ((with_reducible refine gate_callee (f := 64) rfl ?_); refine gl 25 Try.func64 #[.int .i64 a0, .agg #[.int .i64 a1_0, .int .i64 a1_1, .int .i64 a1_2], .slice A487_0 (rd_L9 l2 x18_1).length c487_0] ?_; (with_reducible refine (impl_isGroup.calls _ _ _ _ _ _ _ _ _ _ ?side1 ?side2 A12.out).mono ?_); (case side1 => exact ks (Kd.C_below HR487_0.out HB.out)); (case side2 => exact HC487_0.out); rintro e w15 ⟨rfl, hb⟩; refine ⟨_, rfl, ?_⟩; replace BK485 := bB BK485 hb; replace HB := bS1 HB GE485 hb; (try clear hb)))
        go_roundg k1
        case measure => have := HK1.out; omega
        case rel => exact ⟨(wrap64 (x18_1 + 1)), (by first | rfl | (simp; done) | (simp [*]; done)), H', ⟨by have := HK1.out; omega⟩, ⟨bkp BK485⟩, ⟨bbw1 HB GE485⟩⟩
       ·replace c13 := Bool.eq_false_iff.mpr c13
        subst c13
        have H1 : (some 2) = some r := by rw [if_neg (show ¬ (false = true) by decide)] at H; first | done | exact H
        clear H
        have H := H1
        clear H1
        obtain rfl := Option.some.inj H
        have p487 : 0 ≤ (x18_1 : Int) := od
        have q487 : x18_1 < (l2.length : Int) := od
        obtain ⟨ad487, A487_0, c487_0, e487, hx487_0, hl487_0, hi487_0⟩ := at_L9 HR2.out x18_1 p487 q487
        cases e487
        replace hx487_0 := xb HB hx487_0
        have HR487_0 := Aside0.mk hi487_0
        have HC487_0 := Aside0.mk hl487_0
        clear hi487_0 hl487_0
        replace p487 := eq_true p487
        replace q487 := eq_true q487
        obtain ⟨hcz16_0, hcz16_1, hcz16_2, hfz16_0, hfz16_1, hfz16_2⟩ := bz3 BK485
        go_wp2_with (first | ((with_reducible refine gate_callee (f := 64) rfl ?_); refine gl 25 Try.func64 #[.int .i64 a0, .agg #[.int .i64 a1_0, .int .i64 a1_1, .int .i64 a1_2], .slice A487_0 (rd_L9 l2 x18_1).length c487_0] ?_; (with_reducible refine (impl_isGroup.calls _ _ _ _ _ _ _ _ _ _ ?side1 ?side2 A12.out).mono ?_); (case side1 => exact ks (Kd.C_below HR487_0.out HB.out)); (case side2 => exact HC487_0.out); rintro e w17 ⟨rfl, hb⟩; refine ⟨_, rfl, ?_⟩; replace BK485 := bB BK485 hb; replace HB := bS1 HB GE485 hb; (try clear hb)))
        go_ret
        exact er (bbw1 HB GE485)
      ·rw [if_neg c11] at H
       exact absurd H (by simp)
     ·rw [if_neg c10] at H
      exact absurd H (by simp)
    ·rw [if_neg c9] at H
     have c9b0 : decide (x18_1 < (l2.length : Int)) = false := decide_eq_false c9
     clear c9
     obtain rfl := Option.some.inj H
     go_wp2
     go_ret
     exact er (bbw1 HB GE485)
 ·rw [if_neg c5] at H
  have c5b0 : (t486 == 0) = false := beq_eq_false_iff_ne.mpr c5
  have c5b1 : (t486 != 0) = true := bne_iff_ne.mpr c5
  obtain rfl := Option.some.inj H
  go_enter Try.func32, Try.ntmps32
  go_wp2_with (first | ((with_reducible refine gd 4 rfl ?_); refine bx #[.int .i64 a1_0, .int .i64 a1_1, .int .i64 a1_2] 27 ?_; intro gb485 hg w18 BK485 hb; have GE485 := ngw0 hg HB; replace HB := bS0 HB hb; clear hb hg; obtain ⟨hcz19_0, hcz19_1, hcz19_2, hfz19_0, hfz19_1, hfz19_2⟩ := bz3 BK485) | ((with_reducible refine gate_callee (f := 63) rfl ?_); refine gl 12 Try.func63 #[.int .i64 a0, .agg #[.int .i64 a1_0, .int .i64 a1_1, .int .i64 a1_2]] ?_; (with_reducible refine (impl_frameCode.calls _ _ _ _ _ _ A4.out).mono ?_); rintro e w20 ⟨rfl, hb⟩; refine ⟨_, rfl, ?_⟩; replace BK485 := bB BK485 hb; replace HB := bS1 HB GE485 hb; (try clear hb)))
  go_ret
  exact er (bbw1 HB GE485)
end Go.Proofs.Ytcchmdodifkloaa.PA
