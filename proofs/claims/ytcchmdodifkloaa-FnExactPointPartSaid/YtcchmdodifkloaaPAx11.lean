/- Walks written by program: each Go function that the law reaches comes to the plain function beside it. -/
import Derived.Test.YtcchmdodifkloaaPAx0
import Derived.Test.YtcchmdodifkloaaPAx2
import Derived.Test.YtcchmdodifkloaaPAx5
import Derived.Test.YtcchmdodifkloaaPAx9
import Derived.Test.YtcchmdodifkloaaPAx10
import Derived.Test.YtcchmdodifkloaaPAx15
namespace Go.Proofs.Ytcchmdodifkloaa.PA
open Go.RowKit Go.Proofs.YtcchmdodifkloaaW.PrintWords Go.Proofs.YtcchmdodifkloaaW.PrintLast Go.Proofs.YtcchmdodifkloaaW.PrintMore
attribute [local go_sem] max2_int min2_int max_two min_two max_three min_three max_four min_four   -- for this text's walks alone
set_option linter.unusedVariables false
set_option linter.unusedSimpArgs false

attribute [local go_sem high] eqA51
/-! ### spec_l06Point: function 53 -/
def spec_l06Point.l0 : Nat → List (S55) → List (S51) → Int → Option ((List (S51)))
 | 0, _, _, _ => none
 | k + 1, x0, x3, x4 => if x4 < (x0.length : Int) then (if x4 = 0 then (if 0 ≤ x4 then (if x3.length < 4398046511104 then (spec_l06Point.l0 k x0 (x3 ++ [(⟨(rd_T55 x0 x4).f0.f0, (rd_T55 x0 x4).f0.f1, (rd_T55 x0 x4).f0.f2, (rd_T55 x0 x4).f0.f3⟩ : S51)]) (wrap64 (x4 + 1))) else (none)) else (none)) else (if 0 ≤ x4 then (if 0 ≤ (wrap64 (x4 - 1)) then (if (wrap64 (x4 - 1)) < (x0.length : Int) then (if (!(((rd_T55 x0 x4).f0.f0) == ((rd_T55 x0 (wrap64 (x4 - 1))).f0.f0)) || (!(((rd_T55 x0 x4).f0.f1) == ((rd_T55 x0 (wrap64 (x4 - 1))).f0.f1)) || (!(((rd_T55 x0 x4).f0.f2) == ((rd_T55 x0 (wrap64 (x4 - 1))).f0.f2)) || (!(((rd_T55 x0 x4).f0.f3) == ((rd_T55 x0 (wrap64 (x4 - 1))).f0.f3)))))) = true then (if x3.length < 4398046511104 then (spec_l06Point.l0 k x0 (x3 ++ [(⟨(rd_T55 x0 x4).f0.f0, (rd_T55 x0 x4).f0.f1, (rd_T55 x0 x4).f0.f2, (rd_T55 x0 x4).f0.f3⟩ : S51)]) (wrap64 (x4 + 1))) else (none)) else (spec_l06Point.l0 k x0 x3 (wrap64 (x4 + 1)))) else (none)) else (none)) else (none))) else (some x3)
def spec_l06Point.f (k : Nat) (l0 : List (S55)) : Option ((List (S51))) := spec_l06Point.l0 k l0 (([] : List (S51))) 0
set_option maxHeartbeats 8000000 in
set_option maxRecDepth 100000 in
theorem spec_l06Point.calls (k : Nat) (A0 : Option Addr) (c0 : Nat) (l0 : List (S55)) (r : List (S51)) (w : World) (hr0 : Kd.C k55 w A0 l0.length l0) (hc0 : l0.length ≤ c0) (h : spec_l06Point.f k l0 = some r) :
  Calls Try.prog 53 #[.slice A0 l0.length c0] w fun e w' => ∃ v0_ : Value, e = .returned (v0_) ∧ Kd.R k51 51 w' w.heap.size (fun _ => True) v0_ r ∧ Below w.heap.size w w' := by
 have hu51 := Try.underlying51
 have HR0 := Aside0.mk hr0
 have HC0 := Aside0.mk hc0
 clear hr0 hc0
 have HB := asd (Below.refl w.heap.size w)
 have H : (spec_l06Point.l0 k l0 (([] : List (S51))) 0) = some r := h
 clear h
 obtain ⟨y326, hy326⟩ : ∃ y_ : List (S51), y_ = (([] : List (S51))) := ⟨_, rfl⟩
 replace H : (spec_l06Point.l0 k l0 y326 0) = some r := by first | (rw [hy326]; with_reducible exact H) | (have H2_ := (Option.bind_some _ _).symm.trans H; rw [hy326]; with_reducible exact H2_) | (have H2_ := (Option.bind_some _ _).symm.trans H; with_reducible exact H2_) | with_reducible exact H | (rw [hy326]; exact H) | exact H
 have Ny326 := Aside0.mk hy326
 clear hy326
 have H' := Aside0.mk H
 clear H
 go_enter Try.func53, Try.ntmps53
 go_wp2_with (first | ((with_reducible refine gd 5 rfl ?_); refine Kd.R_lit k51 _ 51 ?hg (N := 5) ?hd (xs := ([] : List (S51))) (inner := []) (ok := fun _ => True) (okp := fun _ => True) ?hr ?hp (fun _ hk => hk) trivial (Below.refl _ _) (Nat.le_refl _) (by simp) ?_; (case hd => rfl); (case hg => rfl); (case hr => first | (go_simp; done) | (go_simp; rfl)); (case hp => exact (Reps.none _ _)); intro v327 w2 ho3 hb hg_ hnew_; clear hg_ hnew_; (first | rw [← Ny326.out] at ho3 | (simp only [Int.reduceToNat] at ho3; rw [← Ny326.out] at ho3)); have HO328 := asd (Kd.R_lower ho3 (bsz0 HB)); replace HB := bS0 HB hb; clear hb ho3))
 repeat (go_quiet (first | ((with_reducible refine gd 5 rfl ?_); refine Kd.R_lit k51 _ 51 ?hg (N := 5) ?hd (xs := ([] : List (S51))) (inner := []) (ok := fun _ => True) (okp := fun _ => True) ?hr ?hp (fun _ hk => hk) trivial (Below.refl _ _) (Nat.le_refl _) (by simp) ?_; (case hd => rfl); (case hg => rfl); (case hr => first | (go_simp; done) | (go_simp; rfl)); (case hp => exact (Reps.none _ _)); intro v327 w2 ho3 hb hg_ hnew_; clear hg_ hnew_; (first | rw [← Ny326.out] at ho3 | (simp only [Int.reduceToNat] at ho3; rw [← Ny326.out] at ho3)); have HO328 := asd (Kd.R_lower ho3 (bsz0 HB)); replace HB := bS0 HB hb; clear hb ho3)); try go_wp2_with (first | ((with_reducible refine gd 5 rfl ?_); refine Kd.R_lit k51 _ 51 ?hg (N := 5) ?hd (xs := ([] : List (S51))) (inner := []) (ok := fun _ => True) (okp := fun _ => True) ?hr ?hp (fun _ hk => hk) trivial (Below.refl _ _) (Nat.le_refl _) (by simp) ?_; (case hd => rfl); (case hg => rfl); (case hr => first | (go_simp; done) | (go_simp; rfl)); (case hp => exact (Reps.none _ _)); intro v327 w2 ho3 hb hg_ hnew_; clear hg_ hnew_; (first | rw [← Ny326.out] at ho3 | (simp only [Int.reduceToNat] at ho3; rw [← Ny326.out] at ho3)); have HO328 := asd (Kd.R_lower ho3 (bsz0 HB)); replace HB := bS0 HB hb; clear hb ho3)))
 go_loopg [3, 4] k (fun kq v3 v4 w' => ∃ (x3_1 : List (S51)) (x4_1 : Int), v4 = .int .i64 x4_1 ∧ Aside0 (spec_l06Point.l0 kq l0 x3_1 x4_1 = some r) ∧ Aside0 (kq ≤ k) ∧ Aside0 (Kd.R k51 51 w' w.heap.size (fun _ => True) v3 x3_1) ∧ Aside0 (Below w.heap.size w w'))
 case atStart => exact ⟨(y326), (0), (by first | rfl | (simp; done) | (simp [*]; done)), H', ⟨Nat.le_refl _⟩, ⟨by (with_reducible repeat (first | apply Kd.R_alloc | apply Kd.R_drewN | apply Kd.R_drew)); exact HO328.out⟩, ⟨bbw0 HB⟩⟩
 case round =>
  clear H'
  try clear p2
  obtain ⟨x3_1, x4_1, rfl, HA, HK1, HO_3, HB⟩ := hrel
  cases gk with
  | zero => exact absurd HA.out (by simp [spec_l06Point.l0])
  | succ k1 =>
   have H := HA.out
   clear HA
   simp only [spec_l06Point.l0] at H
   by_cases c4 : x4_1 < (l0.length : Int)
   ·rw [if_pos c4] at H
    have c4b0 : decide (x4_1 < (l0.length : Int)) = true := decide_eq_true c4
    clear c4
    by_cases c5 : x4_1 = 0
    ·rw [if_pos c5] at H
     have c5b0 : (x4_1 == 0) = true := beq_iff_eq.mpr c5
     have c5b1 : (x4_1 != 0) = false := bne_eq_false_iff_eq.mpr c5
     clear c5
     by_cases c6 : 0 ≤ x4_1
     ·rw [if_pos c6] at H
      have c6b0 : decide (0 ≤ x4_1) = true := decide_eq_true c6
      clear c6
      by_cases c7 : x3_1.length < 4398046511104
      ·rw [if_pos c7] at H
       have LMc7 := Aside0.mk c7
       clear c7
       obtain ⟨y330, hy330⟩ : ∃ y_ : List (S51), y_ = (x3_1 ++ [(⟨(rd_T55 l0 x4_1).f0.f0, (rd_T55 l0 x4_1).f0.f1, (rd_T55 l0 x4_1).f0.f2, (rd_T55 l0 x4_1).f0.f3⟩ : S51)]) := ⟨_, rfl⟩
       replace H : (spec_l06Point.l0 k1 l0 y330 (wrap64 (x4_1 + 1))) = some r := by first | (rw [hy330]; with_reducible exact H) | (have H2_ := (Option.bind_some _ _).symm.trans H; rw [hy330]; with_reducible exact H2_) | (have H2_ := (Option.bind_some _ _).symm.trans H; with_reducible exact H2_) | with_reducible exact H | (rw [hy330]; exact H) | exact H
       have Ny330 := Aside0.mk hy330
       clear hy330
       have H' := Aside0.mk H
       clear H
       obtain ⟨p329, q329, ad329, e329, hx329_0, hx329_1, hx329_2, hx329_3, hx329_4, hx329_5⟩ := at_T55x HR0.out HB x4_1
       cases e329
       go_wp2_with (first | ((with_reducible refine gate_builtin (b := .append) (xs := #[.tmp 28, .tmp 34]) rfl ?_); at_builtin; refine Kd.R_append k51 (w0 := w) w.heap.size rfl (.tmp 28) (.tmp 34) 44 51 (.agg #[(.int .i64 0), (.int .i64 0), (.int .i64 0), (.int .i64 0)]) 32 rfl Try.underlying44 info51 rfl (by decide) (by omega) u3 x3_1 (⟨(rd_T55 l0 x4_1).f0.f0, (rd_T55 l0 x4_1).f0.f1, (rd_T55 l0 x4_1).f0.f2, (rd_T55 l0 x4_1).f0.f3⟩ : S51) [.int .i64 ((rd_T55 l0 x4_1).f0.f0), .int .i64 ((rd_T55 l0 x4_1).f0.f1), .int .i64 ((rd_T55 l0 x4_1).f0.f2), .int .i64 ((rd_T55 l0 x4_1).f0.f3)] (fun _ => True) (fun _ => False) rfl rfl ?aP (fun _ hk => hk.elim) ?aF ?aO ?aB ?aS ?aL ?_; (case aP => exact k51_mkM _ _ _ (⟨(rd_T55 l0 x4_1).f0.f0, (rd_T55 l0 x4_1).f0.f1, (rd_T55 l0 x4_1).f0.f2, (rd_T55 l0 x4_1).f0.f3⟩ : S51)); (case aB => exact (bbw0 HB)); (case aF => exact (fun _ _ => trivial)); (case aO => exact (kr HO_3)); (case aS => exact (bsz0 HB)); (case aL => have := LMc7.out; omega); intro v331 w8 ho hb hg hat; rw [← Ny330.out] at ho; have n0_ := asd (hb); have n1_ := asd (ho); clear HB; clear HO_3; have HB := n0_; have HO332 := n1_; clear n0_ n1_; clear ho hb hg hat))
       repeat (go_quiet (first | ((with_reducible refine gate_builtin (b := .append) (xs := #[.tmp 28, .tmp 34]) rfl ?_); at_builtin; refine Kd.R_append k51 (w0 := w) w.heap.size rfl (.tmp 28) (.tmp 34) 44 51 (.agg #[(.int .i64 0), (.int .i64 0), (.int .i64 0), (.int .i64 0)]) 32 rfl Try.underlying44 info51 rfl (by decide) (by omega) u3 x3_1 (⟨(rd_T55 l0 x4_1).f0.f0, (rd_T55 l0 x4_1).f0.f1, (rd_T55 l0 x4_1).f0.f2, (rd_T55 l0 x4_1).f0.f3⟩ : S51) [.int .i64 ((rd_T55 l0 x4_1).f0.f0), .int .i64 ((rd_T55 l0 x4_1).f0.f1), .int .i64 ((rd_T55 l0 x4_1).f0.f2), .int .i64 ((rd_T55 l0 x4_1).f0.f3)] (fun _ => True) (fun _ => False) rfl rfl ?aP (fun _ hk => hk.elim) ?aF ?aO ?aB ?aS ?aL ?_; (case aP => exact k51_mkM _ _ _ (⟨(rd_T55 l0 x4_1).f0.f0, (rd_T55 l0 x4_1).f0.f1, (rd_T55 l0 x4_1).f0.f2, (rd_T55 l0 x4_1).f0.f3⟩ : S51)); (case aB => exact (bbw0 HB)); (case aF => exact (fun _ _ => trivial)); (case aO => exact (kr HO_3)); (case aS => exact (bsz0 HB)); (case aL => have := LMc7.out; omega); intro v331 w8 ho hb hg hat; rw [← Ny330.out] at ho; have n0_ := asd (hb); have n1_ := asd (ho); clear HB; clear HO_3; have HB := n0_; have HO332 := n1_; clear n0_ n1_; clear ho hb hg hat)); try go_wp2_with (first | ((with_reducible refine gate_builtin (b := .append) (xs := #[.tmp 28, .tmp 34]) rfl ?_); at_builtin; refine Kd.R_append k51 (w0 := w) w.heap.size rfl (.tmp 28) (.tmp 34) 44 51 (.agg #[(.int .i64 0), (.int .i64 0), (.int .i64 0), (.int .i64 0)]) 32 rfl Try.underlying44 info51 rfl (by decide) (by omega) u3 x3_1 (⟨(rd_T55 l0 x4_1).f0.f0, (rd_T55 l0 x4_1).f0.f1, (rd_T55 l0 x4_1).f0.f2, (rd_T55 l0 x4_1).f0.f3⟩ : S51) [.int .i64 ((rd_T55 l0 x4_1).f0.f0), .int .i64 ((rd_T55 l0 x4_1).f0.f1), .int .i64 ((rd_T55 l0 x4_1).f0.f2), .int .i64 ((rd_T55 l0 x4_1).f0.f3)] (fun _ => True) (fun _ => False) rfl rfl ?aP (fun _ hk => hk.elim) ?aF ?aO ?aB ?aS ?aL ?_; (case aP => exact k51_mkM _ _ _ (⟨(rd_T55 l0 x4_1).f0.f0, (rd_T55 l0 x4_1).f0.f1, (rd_T55 l0 x4_1).f0.f2, (rd_T55 l0 x4_1).f0.f3⟩ : S51)); (case aB => exact (bbw0 HB)); (case aF => exact (fun _ _ => trivial)); (case aO => exact (kr HO_3)); (case aS => exact (bsz0 HB)); (case aL => have := LMc7.out; omega); intro v331 w8 ho hb hg hat; rw [← Ny330.out] at ho; have n0_ := asd (hb); have n1_ := asd (ho); clear HB; clear HO_3; have HB := n0_; have HO332 := n1_; clear n0_ n1_; clear ho hb hg hat)))
       go_roundg k1
       case measure => have := HK1.out; omega
       case rel => exact ⟨(y330), (wrap64 (x4_1 + 1)), (by first | rfl | (simp; done) | (simp [*]; done)), H', ⟨by have := HK1.out; omega⟩, ⟨by (with_reducible repeat (first | apply Kd.R_alloc | apply Kd.R_drewN | apply Kd.R_drew)); exact HO332.out⟩, ⟨bbw0 HB⟩⟩
      ·rw [if_neg c7] at H
       exact absurd H (by simp)
     ·rw [if_neg c6] at H
      exact absurd H (by simp)
    ·rw [if_neg c5] at H
     have c5b0 : (x4_1 == 0) = false := beq_eq_false_iff_ne.mpr c5
     have c5b1 : (x4_1 != 0) = true := bne_iff_ne.mpr c5
     by_cases c9 : 0 ≤ x4_1
     ·rw [if_pos c9] at H
      have c9b0 : decide (0 ≤ x4_1) = true := decide_eq_true c9
      clear c9
      obtain ⟨ji10, hji10⟩ : ∃ j_ : Int, (wrap64 (x4_1 - 1)) = j_ := ⟨_, rfl⟩
      replace H : (if 0 ≤ (ji10) then (if (ji10) < (l0.length : Int) then (if (!(((rd_T55 l0 x4_1).f0.f0) == ((rd_T55 l0 (ji10)).f0.f0)) || (!(((rd_T55 l0 x4_1).f0.f1) == ((rd_T55 l0 (ji10)).f0.f1)) || (!(((rd_T55 l0 x4_1).f0.f2) == ((rd_T55 l0 (ji10)).f0.f2)) || (!(((rd_T55 l0 x4_1).f0.f3) == ((rd_T55 l0 (ji10)).f0.f3)))))) = true then (if x3_1.length < 4398046511104 then (spec_l06Point.l0 k1 l0 (x3_1 ++ [(⟨(rd_T55 l0 x4_1).f0.f0, (rd_T55 l0 x4_1).f0.f1, (rd_T55 l0 x4_1).f0.f2, (rd_T55 l0 x4_1).f0.f3⟩ : S51)]) (wrap64 (x4_1 + 1))) else (none)) else (spec_l06Point.l0 k1 l0 x3_1 (wrap64 (x4_1 + 1)))) else (none)) else (none)) = some r := by first | (rw [hji10] at H; first | done | exact H) | (simp only [hji10] at H ⊢; exact H)
      have hji10w : (IntKind.i64.wrap (x4_1 - 1)) = ji10 := (i64_w _).trans hji10
      by_cases c11 : 0 ≤ (ji10)
      ·rw [if_pos c11] at H
       have c11b0 : decide (0 ≤ (ji10)) = true := decide_eq_true c11
       clear c11
       by_cases c12 : (ji10) < (l0.length : Int)
       ·rw [if_pos c12] at H
        have c12b0 : decide ((ji10) < (l0.length : Int)) = true := decide_eq_true c12
        clear c12
        by_cases c13 : (!(((rd_T55 l0 x4_1).f0.f0) == ((rd_T55 l0 (ji10)).f0.f0)) || (!(((rd_T55 l0 x4_1).f0.f1) == ((rd_T55 l0 (ji10)).f0.f1)) || (!(((rd_T55 l0 x4_1).f0.f2) == ((rd_T55 l0 (ji10)).f0.f2)) || (!(((rd_T55 l0 x4_1).f0.f3) == ((rd_T55 l0 (ji10)).f0.f3)))))) = true
        ·rw [if_pos c13] at H
         have c13b0 : (!(((rd_T55 l0 x4_1).f0.f0) == ((rd_T55 l0 (ji10)).f0.f0)) || (!(((rd_T55 l0 x4_1).f0.f1) == ((rd_T55 l0 (ji10)).f0.f1)) || (!(((rd_T55 l0 x4_1).f0.f2) == ((rd_T55 l0 (ji10)).f0.f2)) || (!(((rd_T55 l0 x4_1).f0.f3) == ((rd_T55 l0 (ji10)).f0.f3)))))) = true := c13
         clear c13
         by_cases c14 : x3_1.length < 4398046511104
         ·rw [if_pos c14] at H
          have LMc14 := Aside0.mk c14
          clear c14
          obtain ⟨y336, hy336⟩ : ∃ y_ : List (S51), y_ = (x3_1 ++ [(⟨(rd_T55 l0 x4_1).f0.f0, (rd_T55 l0 x4_1).f0.f1, (rd_T55 l0 x4_1).f0.f2, (rd_T55 l0 x4_1).f0.f3⟩ : S51)]) := ⟨_, rfl⟩
          replace H : (spec_l06Point.l0 k1 l0 y336 (wrap64 (x4_1 + 1))) = some r := by first | (rw [hy336]; with_reducible exact H) | (have H2_ := (Option.bind_some _ _).symm.trans H; rw [hy336]; with_reducible exact H2_) | (have H2_ := (Option.bind_some _ _).symm.trans H; with_reducible exact H2_) | with_reducible exact H | (rw [hy336]; exact H) | exact H
          have Ny336 := Aside0.mk hy336
          clear hy336
          have H' := Aside0.mk H
          clear H
          obtain ⟨p333, q333, ad333, e333, hx333_0, hx333_1, hx333_2, hx333_3, hx333_4, hx333_5⟩ := at_T55x HR0.out HB x4_1
          cases e333
          obtain ⟨p334, q334, ad334, e334, hx334_0, hx334_1, hx334_2, hx334_3, hx334_4, hx334_5⟩ := at_T55x HR0.out HB (ji10)
          obtain rfl : ad333 = ad334 := (by injection e334)
          obtain ⟨p335, q335, ad335, e335, hx335_0, hx335_1, hx335_2, hx335_3, hx335_4, hx335_5⟩ := at_T55x HR0.out HB x4_1
          obtain rfl : ad333 = ad335 := (by injection e335)
          go_wp2_with (first | ((with_reducible refine gate_builtin (b := .append) (xs := #[.tmp 28, .tmp 34]) rfl ?_); at_builtin; refine Kd.R_append k51 (w0 := w) w.heap.size rfl (.tmp 28) (.tmp 34) 44 51 (.agg #[(.int .i64 0), (.int .i64 0), (.int .i64 0), (.int .i64 0)]) 32 rfl Try.underlying44 info51 rfl (by decide) (by omega) u3 x3_1 (⟨(rd_T55 l0 x4_1).f0.f0, (rd_T55 l0 x4_1).f0.f1, (rd_T55 l0 x4_1).f0.f2, (rd_T55 l0 x4_1).f0.f3⟩ : S51) [.int .i64 ((rd_T55 l0 x4_1).f0.f0), .int .i64 ((rd_T55 l0 x4_1).f0.f1), .int .i64 ((rd_T55 l0 x4_1).f0.f2), .int .i64 ((rd_T55 l0 x4_1).f0.f3)] (fun _ => True) (fun _ => False) rfl rfl ?aP (fun _ hk => hk.elim) ?aF ?aO ?aB ?aS ?aL ?_; (case aP => exact k51_mkM _ _ _ (⟨(rd_T55 l0 x4_1).f0.f0, (rd_T55 l0 x4_1).f0.f1, (rd_T55 l0 x4_1).f0.f2, (rd_T55 l0 x4_1).f0.f3⟩ : S51)); (case aB => exact (bbw0 HB)); (case aF => exact (fun _ _ => trivial)); (case aO => exact (kr HO_3)); (case aS => exact (bsz0 HB)); (case aL => have := LMc14.out; omega); intro v337 w15 ho hb hg hat; rw [← Ny336.out] at ho; have n0_ := asd (hb); have n1_ := asd (ho); clear HB; clear HO_3; have HB := n0_; have HO338 := n1_; clear n0_ n1_; clear ho hb hg hat))
          repeat (go_quiet (first | ((with_reducible refine gate_builtin (b := .append) (xs := #[.tmp 28, .tmp 34]) rfl ?_); at_builtin; refine Kd.R_append k51 (w0 := w) w.heap.size rfl (.tmp 28) (.tmp 34) 44 51 (.agg #[(.int .i64 0), (.int .i64 0), (.int .i64 0), (.int .i64 0)]) 32 rfl Try.underlying44 info51 rfl (by decide) (by omega) u3 x3_1 (⟨(rd_T55 l0 x4_1).f0.f0, (rd_T55 l0 x4_1).f0.f1, (rd_T55 l0 x4_1).f0.f2, (rd_T55 l0 x4_1).f0.f3⟩ : S51) [.int .i64 ((rd_T55 l0 x4_1).f0.f0), .int .i64 ((rd_T55 l0 x4_1).f0.f1), .int .i64 ((rd_T55 l0 x4_1).f0.f2), .int .i64 ((rd_T55 l0 x4_1).f0.f3)] (fun _ => True) (fun _ => False) rfl rfl ?aP (fun _ hk => hk.elim) ?aF ?aO ?aB ?aS ?aL ?_; (case aP => exact k51_mkM _ _ _ (⟨(rd_T55 l0 x4_1).f0.f0, (rd_T55 l0 x4_1).f0.f1, (rd_T55 l0 x4_1).f0.f2, (rd_T55 l0 x4_1).f0.f3⟩ : S51)); (case aB => exact (bbw0 HB)); (case aF => exact (fun _ _ => trivial)); (case aO => exact (kr HO_3)); (case aS => exact (bsz0 HB)); (case aL => have := LMc14.out; omega); intro v337 w15 ho hb hg hat; rw [← Ny336.out] at ho; have n0_ := asd (hb); have n1_ := asd (ho); clear HB; clear HO_3; have HB := n0_; have HO338 := n1_; clear n0_ n1_; clear ho hb hg hat)); try go_wp2_with (first | ((with_reducible refine gate_builtin (b := .append) (xs := #[.tmp 28, .tmp 34]) rfl ?_); at_builtin; refine Kd.R_append k51 (w0 := w) w.heap.size rfl (.tmp 28) (.tmp 34) 44 51 (.agg #[(.int .i64 0), (.int .i64 0), (.int .i64 0), (.int .i64 0)]) 32 rfl Try.underlying44 info51 rfl (by decide) (by omega) u3 x3_1 (⟨(rd_T55 l0 x4_1).f0.f0, (rd_T55 l0 x4_1).f0.f1, (rd_T55 l0 x4_1).f0.f2, (rd_T55 l0 x4_1).f0.f3⟩ : S51) [.int .i64 ((rd_T55 l0 x4_1).f0.f0), .int .i64 ((rd_T55 l0 x4_1).f0.f1), .int .i64 ((rd_T55 l0 x4_1).f0.f2), .int .i64 ((rd_T55 l0 x4_1).f0.f3)] (fun _ => True) (fun _ => False) rfl rfl ?aP (fun _ hk => hk.elim) ?aF ?aO ?aB ?aS ?aL ?_; (case aP => exact k51_mkM _ _ _ (⟨(rd_T55 l0 x4_1).f0.f0, (rd_T55 l0 x4_1).f0.f1, (rd_T55 l0 x4_1).f0.f2, (rd_T55 l0 x4_1).f0.f3⟩ : S51)); (case aB => exact (bbw0 HB)); (case aF => exact (fun _ _ => trivial)); (case aO => exact (kr HO_3)); (case aS => exact (bsz0 HB)); (case aL => have := LMc14.out; omega); intro v337 w15 ho hb hg hat; rw [← Ny336.out] at ho; have n0_ := asd (hb); have n1_ := asd (ho); clear HB; clear HO_3; have HB := n0_; have HO338 := n1_; clear n0_ n1_; clear ho hb hg hat)))
          go_roundg k1
          case measure => have := HK1.out; omega
          case rel => exact ⟨(y336), (wrap64 (x4_1 + 1)), (by first | rfl | (simp; done) | (simp [*]; done)), H', ⟨by have := HK1.out; omega⟩, ⟨by (with_reducible repeat (first | apply Kd.R_alloc | apply Kd.R_drewN | apply Kd.R_drew)); exact HO338.out⟩, ⟨bbw0 HB⟩⟩
         ·rw [if_neg c14] at H
          exact absurd H (by simp)
        ·rw [if_neg c13] at H
         have c13b0 : (!(((rd_T55 l0 x4_1).f0.f0) == ((rd_T55 l0 (ji10)).f0.f0)) || (!(((rd_T55 l0 x4_1).f0.f1) == ((rd_T55 l0 (ji10)).f0.f1)) || (!(((rd_T55 l0 x4_1).f0.f2) == ((rd_T55 l0 (ji10)).f0.f2)) || (!(((rd_T55 l0 x4_1).f0.f3) == ((rd_T55 l0 (ji10)).f0.f3)))))) = false := by simpa using c13
         clear c13
         have H' := Aside0.mk H
         clear H
         obtain ⟨p333, q333, ad333, e333, hx333_0, hx333_1, hx333_2, hx333_3, hx333_4, hx333_5⟩ := at_T55x HR0.out HB x4_1
         cases e333
         obtain ⟨p334, q334, ad334, e334, hx334_0, hx334_1, hx334_2, hx334_3, hx334_4, hx334_5⟩ := at_T55x HR0.out HB (ji10)
         obtain rfl : ad333 = ad334 := (by injection e334)
         go_wp2
         repeat (go_quiet (fail); try go_wp2)
         go_roundg k1
         case measure => have := HK1.out; omega
         case rel => exact ⟨(x3_1), (wrap64 (x4_1 + 1)), (by first | rfl | (simp; done) | (simp [*]; done)), H', ⟨by have := HK1.out; omega⟩, ⟨by (with_reducible repeat (first | apply Kd.R_alloc | apply Kd.R_drewN | apply Kd.R_drew)); exact HO_3.out⟩, ⟨bbw0 HB⟩⟩
       ·rw [if_neg c12] at H
        exact absurd H (by simp)
      ·rw [if_neg c11] at H
       exact absurd H (by simp)
     ·rw [if_neg c9] at H
      exact absurd H (by simp)
   ·rw [if_neg c4] at H
    have c4b0 : decide (x4_1 < (l0.length : Int)) = false := decide_eq_false c4
    clear c4
    obtain rfl := Option.some.inj H
    go_wp2
    repeat (go_quiet (fail); try go_wp2)
    go_ret
    exact ⟨_, by first | rfl | (simp [errW_none, errW_some] <;> rfl) | (simp [*, errW_none, errW_some] <;> rfl), by (with_reducible repeat (first | apply Kd.R_alloc | apply Kd.R_drewN | apply Kd.R_drew)); exact HO_3.out, bbw0 HB⟩

/-! ### spec_PointPart: function 24 -/
def spec_PointPart.f (k : Nat) (a0 : Int) (a1_0 : Int) (a1_1 : Int) (a1_2 : Int) (l2 : List (S55)) : Option ((List (S51)) × Int) := (spec_IsGroup.f k a0 a1_0 a1_1 a1_2 l2).bind fun t340 => ((spec_l06Code.f a0 a1_0 a1_1 a1_2 t340).bind fun t341 => (if t341 = 0 then ((spec_l06Point.f k l2).bind fun t342 => (some (t342, 0))) else (some (([] : List (S51)), t341))))
def spec_PointPart.T1 : Bool × List (List Nat × List Nat) := (true, [([], []), ([], []), ([], []), ([], []), ([], []), ([2, 3, 4], [2, 3, 4]), ([0, 1, 5, 5], [0, 1, 5]), ([6, 6, 0, 1, 2, 3, 4, 5, 6], [6])])
def spec_PointPart.B1 : List Nat := [0, 0, 0, 0, 0, 28, 63, 127]
theorem spec_PointPart.tab1 : rtab .any (opsOf Try.f24 1) = spec_PointPart.T1 := by kernel_rfl
theorem spec_PointPart.bits1 : waitsOk spec_PointPart.T1.2 spec_PointPart.B1 = true := by kernel_rfl
set_option maxHeartbeats 8000000 in
set_option maxRecDepth 100000 in
theorem spec_PointPart.calls (k : Nat) (a0 : Int) (a1_0 : Int) (a1_1 : Int) (a1_2 : Int) (A2 : Option Addr) (c2 : Nat) (l2 : List (S55)) (r1 : List (S51)) (r2 : Int) (w : World) (hr2 : Kd.C k55 w A2 l2.length l2) (hc2 : l2.length ≤ c2) (h : spec_PointPart.f k a0 a1_0 a1_1 a1_2 l2 = some (r1, r2)) :
  Calls Try.prog 24 #[.int .i64 a0, .agg #[.int .i64 a1_0, .int .i64 a1_1, .int .i64 a1_2], .slice A2 l2.length c2] w fun e w' => ∃ v0_ : Value, e = .returned (.tuple #[v0_, .int .i64 r2]) ∧ Kd.R k51 51 w' w.heap.size (fun _ => True) v0_ r1 ∧ Below w.heap.size w w' := by
 have hu27 := Try.underlying27
 have HR2 := Aside0.mk hr2
 have HC2 := Aside0.mk hc2
 clear hr2 hc2
 have HB := asd (Below.refl w.heap.size w)
 have H : ((spec_IsGroup.f k a0 a1_0 a1_1 a1_2 l2).bind fun t340 => ((spec_l06Code.f a0 a1_0 a1_1 a1_2 t340).bind fun t341 => (if t341 = 0 then ((spec_l06Point.f k l2).bind fun t342 => (some (t342, 0))) else (some (([] : List (S51)), t341))))) = some (r1, r2) := h
 clear h
 obtain ⟨t340, A4, H⟩ := ob H
 replace H : ((spec_l06Code.f a0 a1_0 a1_1 a1_2 t340).bind fun t341 => (if t341 = 0 then ((spec_l06Point.f k l2).bind fun t342 => (some (t342, 0))) else (some (([] : List (S51)), t341)))) = some (r1, r2) := H
 obtain ⟨t341, A5, H⟩ := ob H
 replace H : (if t341 = 0 then ((spec_l06Point.f k l2).bind fun t342 => (some (t342, 0))) else (some (([] : List (S51)), t341))) = some (r1, r2) := H
 by_cases c6 : t341 = 0
 ·rw [if_pos c6] at H
  have c6b0 : (t341 == 0) = true := beq_iff_eq.mpr c6
  have c6b1 : (t341 != 0) = false := bne_eq_false_iff_eq.mpr c6
  clear c6
  obtain ⟨t342, A7, H⟩ := ob H
  replace H : (some (t342, 0)) = some (r1, r2) := H
  simp only [Option.some.injEq, Prod.mk.injEq] at H
  obtain ⟨rfl, rfl⟩ := H
  go_enter Try.func24, Try.ntmps24
  try go_wp2_with (first | ((with_reducible refine gd 4 rfl ?_); refine bx #[.int .i64 a1_0, .int .i64 a1_1, .int .i64 a1_2] 27 ?_; intro gb339 hg w8 BK339 hb; have GE339 := ngw0 hg HB; replace HB := bS0 HB hb; clear hb hg))
  replace BK339 := asd (blk_drew BK339.out)
  replace HB := asd (below_drew1 HB.out)
  refine start_ (n := 8) (S := fun w' => w'.cell? ⟨gb339, 0, none⟩ = some (.int .i64 a1_0) ∧ w'.cell? ⟨gb339, 1, none⟩ = some (.int .i64 a1_1) ∧ w'.cell? ⟨gb339, 2, none⟩ = some (.int .i64 a1_2)) (ds := []) (bt 8 0) (by kernel_rfl) rfl rfl ⟨bcl BK339 0, bcl BK339 1, bcl BK339 2⟩ (fun hHeld => ?_); refine with_tabW spec_PointPart.tab1 spec_PointPart.bits1 (fun HT_ HW_ => ?_)
  generalize w8.drew = w9 at BK339 HB hHeld ⊢
  refine pu 0 (some 9) (bt 8 1) HT_ ?_
  refine pu 2 (some 11) (bs 8 5) HT_ ?_
  refine pu 4 (some 13) (bs 8 21) HT_ ?_
  refine ta 1 (some 10) (bs 8 23) HT_ HW_ hHeld ?_
  refine ta 3 (some 12) (bt 8 5) HT_ HW_ hHeld ?_
  refine ro 5 (some 14) (bt 8 6) HT_ (fun K hK => ?_)
  refine gs Try.func29 #[.int .i64 a0, .agg #[.int .i64 a1_0, .int .i64 a1_1, .int .i64 a1_2], .slice A2 l2.length c2] ?_
  with_reducible refine (spec_IsGroup.calls _ _ _ _ _ _ _ _ _ _ ?side1 ?side2 A4.out).mono ?_
  (case side1 => exact ks (Kd.C_below HR2.out HB.out))
  (case side2 => exact HC2.out)
  rintro e w10 ⟨rfl, hb⟩
  refine ⟨_, rfl, ?_⟩
  replace BK339 := bB BK339 hb
  replace HB := bS1 HB GE339 hb
  (try clear hb)
  (try clear hb2)
  (try clear hk)
  (try clear hi)
  refine hK.out _ _ ⟨bcl BK339 0, bcl BK339 1, bcl BK339 2⟩ (fun hHeld => ?_)
  clear hK K
  refine norm_ (a' := ?_) ?_ ?_
  rotate_left
  ·show Act.put _ (some 14) _ = _
   simp only [Act.put, sA, sB, sC, i64_w, i32_w]
   rfl
  refine ro 6 (some 15) (bt 8 7) HT_ (fun K hK => ?_)
  refine gs Try.func39 #[.int .i64 a0, .agg #[.int .i64 a1_0, .int .i64 a1_1, .int .i64 a1_2], .bool t340] ?_
  with_reducible refine (spec_l06Code.calls _ _ _ _ _ _ _ A5.out).mono ?_
  rintro e w11 ⟨rfl, hb⟩
  refine ⟨_, rfl, ?_⟩
  replace BK339 := bB BK339 hb
  replace HB := bS1 HB GE339 hb
  (try clear hb)
  (try clear hb2)
  (try clear hk)
  (try clear hi)
  refine hK.out _ _ ⟨bcl BK339 0, bcl BK339 1, bcl BK339 2⟩ (fun hHeld => ?_)
  clear hK K
  refine norm_ (a' := ?_) ?_ ?_
  rotate_left
  ·show Act.put _ (some 15) _ = _
   simp only [Act.put, sA, sB, sC, i64_w, i32_w]
   rfl
  refine pu 7 (some 8) (bt 8 8) HT_ ?_
  refine done_ (done_of HT_.out (by kernel_rfl)) ?_
  try go_wp2_with (first | ((with_reducible refine gate_callee (f := 53) rfl ?_); refine gl 20 Try.func53 #[.slice A2 l2.length c2] ?_; (with_reducible refine (spec_l06Point.calls _ _ _ _ _ _ ?side1 ?side2 A7.out).mono ?_); (case side1 => exact ks (Kd.C_below HR2.out HB.out)); (case side2 => exact HC2.out); rintro e w12 ⟨v343, rfl, ho0, hb⟩; refine ⟨_, rfl, ?_⟩; have HO344 := asd (Kd.R_lower ho0 (bsz1 HB GE339)); replace BK339 := bB BK339 hb; replace HB := bS1 HB GE339 hb; (try clear hb); (try clear hb2); (try clear hk); (try clear hi); (try clear ho0)))
  go_ret2
  exact ⟨_, by first | rfl | (simp [errW_none, errW_some] <;> rfl) | (simp [*, errW_none, errW_some] <;> rfl), by (with_reducible repeat (first | apply Kd.R_alloc | apply Kd.R_drewN | apply Kd.R_drew)); exact HO344.out, bbw1 HB GE339⟩
 ·rw [if_neg c6] at H
  have c6b0 : (t341 == 0) = false := beq_eq_false_iff_ne.mpr c6
  have c6b1 : (t341 != 0) = true := bne_iff_ne.mpr c6
  simp only [Option.some.injEq, Prod.mk.injEq] at H
  obtain ⟨rfl, rfl⟩ := H
  go_enter Try.func24, Try.ntmps24
  try go_wp2_with (first | ((with_reducible refine gd 4 rfl ?_); refine bx #[.int .i64 a1_0, .int .i64 a1_1, .int .i64 a1_2] 27 ?_; intro gb339 hg w13 BK339 hb; have GE339 := ngw0 hg HB; replace HB := bS0 HB hb; clear hb hg))
  replace BK339 := asd (blk_drew BK339.out)
  replace HB := asd (below_drew1 HB.out)
  refine start_ (n := 8) (S := fun w' => w'.cell? ⟨gb339, 0, none⟩ = some (.int .i64 a1_0) ∧ w'.cell? ⟨gb339, 1, none⟩ = some (.int .i64 a1_1) ∧ w'.cell? ⟨gb339, 2, none⟩ = some (.int .i64 a1_2)) (ds := []) (bt 8 0) (by kernel_rfl) rfl rfl ⟨bcl BK339 0, bcl BK339 1, bcl BK339 2⟩ (fun hHeld => ?_); refine with_tabW spec_PointPart.tab1 spec_PointPart.bits1 (fun HT_ HW_ => ?_)
  generalize w13.drew = w14 at BK339 HB hHeld ⊢
  refine pu 0 (some 9) (bt 8 1) HT_ ?_
  refine pu 2 (some 11) (bs 8 5) HT_ ?_
  refine pu 4 (some 13) (bs 8 21) HT_ ?_
  refine ta 1 (some 10) (bs 8 23) HT_ HW_ hHeld ?_
  refine ta 3 (some 12) (bt 8 5) HT_ HW_ hHeld ?_
  refine ro 5 (some 14) (bt 8 6) HT_ (fun K hK => ?_)
  refine gs Try.func29 #[.int .i64 a0, .agg #[.int .i64 a1_0, .int .i64 a1_1, .int .i64 a1_2], .slice A2 l2.length c2] ?_
  with_reducible refine (spec_IsGroup.calls _ _ _ _ _ _ _ _ _ _ ?side1 ?side2 A4.out).mono ?_
  (case side1 => exact ks (Kd.C_below HR2.out HB.out))
  (case side2 => exact HC2.out)
  rintro e w15 ⟨rfl, hb⟩
  refine ⟨_, rfl, ?_⟩
  replace BK339 := bB BK339 hb
  replace HB := bS1 HB GE339 hb
  (try clear hb)
  (try clear hb2)
  (try clear hk)
  (try clear hi)
  refine hK.out _ _ ⟨bcl BK339 0, bcl BK339 1, bcl BK339 2⟩ (fun hHeld => ?_)
  clear hK K
  refine norm_ (a' := ?_) ?_ ?_
  rotate_left
  ·show Act.put _ (some 14) _ = _
   simp only [Act.put, sA, sB, sC, i64_w, i32_w]
   rfl
  refine ro 6 (some 15) (bt 8 7) HT_ (fun K hK => ?_)
  refine gs Try.func39 #[.int .i64 a0, .agg #[.int .i64 a1_0, .int .i64 a1_1, .int .i64 a1_2], .bool t340] ?_
  with_reducible refine (spec_l06Code.calls _ _ _ _ _ _ _ A5.out).mono ?_
  rintro e w16 ⟨rfl, hb⟩
  refine ⟨_, rfl, ?_⟩
  replace BK339 := bB BK339 hb
  replace HB := bS1 HB GE339 hb
  (try clear hb)
  (try clear hb2)
  (try clear hk)
  (try clear hi)
  refine hK.out _ _ ⟨bcl BK339 0, bcl BK339 1, bcl BK339 2⟩ (fun hHeld => ?_)
  clear hK K
  refine norm_ (a' := ?_) ?_ ?_
  rotate_left
  ·show Act.put _ (some 15) _ = _
   simp only [Act.put, sA, sB, sC, i64_w, i32_w]
   rfl
  refine pu 7 (some 8) (bt 8 8) HT_ ?_
  refine done_ (done_of HT_.out (by kernel_rfl)) ?_
  try go_wp2
  go_ret2
  exact ⟨_, by first | rfl | (simp [errW_none, errW_some] <;> rfl) | (simp [*, errW_none, errW_some] <;> rfl), by first | exact Kd.R_nil _ _ _ _ _ | exact Kd.N_nil _ _ _ _ _ | exact Kd.V_nil _ _ _ _ _ | exact Kd.Q_nil _ _ _ _ _ | exact Kd.S_nil _ _ _ _ _, bbw1 HB GE339⟩

/-! ### impl_pointPart: function 54 -/
def impl_pointPart.l0 : Nat → List (S51) → List (S55) → Int → Int → Option ((List (S51)))
 | 0, _, _, _, _ => none
 | k + 1, x3, x7, x8, x9 => if x9 < x8 then (if 0 ≤ x9 then (if x9 < (x7.length : Int) then (if (x3.length : Int) = 0 then (if x3.length < 4398046511104 then (impl_pointPart.l0 k (x3 ++ [(⟨(rd_T55 x7 x9).f0.f0, (rd_T55 x7 x9).f0.f1, (rd_T55 x7 x9).f0.f2, (rd_T55 x7 x9).f0.f3⟩ : S51)]) x7 x8 (wrap64 (x9 + 1))) else (none)) else (if 0 ≤ (wrap64 ((x3.length : Int) - 1)) then (if (wrap64 ((x3.length : Int) - 1)) < (x3.length : Int) then (if (!(((rd_T51 x3 (wrap64 ((x3.length : Int) - 1))).f0) == ((rd_T55 x7 x9).f0.f0)) || (!(((rd_T51 x3 (wrap64 ((x3.length : Int) - 1))).f1) == ((rd_T55 x7 x9).f0.f1)) || (!(((rd_T51 x3 (wrap64 ((x3.length : Int) - 1))).f2) == ((rd_T55 x7 x9).f0.f2)) || (!(((rd_T51 x3 (wrap64 ((x3.length : Int) - 1))).f3) == ((rd_T55 x7 x9).f0.f3)))))) = true then (if x3.length < 4398046511104 then (impl_pointPart.l0 k (x3 ++ [(⟨(rd_T55 x7 x9).f0.f0, (rd_T55 x7 x9).f0.f1, (rd_T55 x7 x9).f0.f2, (rd_T55 x7 x9).f0.f3⟩ : S51)]) x7 x8 (wrap64 (x9 + 1))) else (none)) else (impl_pointPart.l0 k x3 x7 x8 (wrap64 (x9 + 1)))) else (none)) else (none))) else (none)) else (none)) else (some x3)
def impl_pointPart.f (k : Nat) (l0 : List (S55)) : Option ((List (S51))) := impl_pointPart.l0 k (([] : List (S51))) l0 (l0.length : Int) 0
set_option maxHeartbeats 8000000 in
set_option maxRecDepth 100000 in
theorem impl_pointPart.calls (k : Nat) (A0 : Option Addr) (c0 : Nat) (l0 : List (S55)) (r : List (S51)) (w : World) (hr0 : Kd.C k55 w A0 l0.length l0) (hc0 : l0.length ≤ c0) (h : impl_pointPart.f k l0 = some r) :
  Calls Try.prog 54 #[.slice A0 l0.length c0] w fun e w' => ∃ v0_ : Value, e = .returned (v0_) ∧ Kd.R k51 51 w' w.heap.size (fun _ => True) v0_ r ∧ Below w.heap.size w w' := by
 have hu55 := Try.underlying55
 have hu51 := Try.underlying51
 have HR0 := Aside0.mk hr0
 have HC0 := Aside0.mk hc0
 clear hr0 hc0
 have HB := asd (Below.refl w.heap.size w)
 have H : (impl_pointPart.l0 k (([] : List (S51))) l0 (l0.length : Int) 0) = some r := h
 clear h
 obtain ⟨y489, hy489⟩ : ∃ y_ : List (S51), y_ = (([] : List (S51))) := ⟨_, rfl⟩
 replace H : (impl_pointPart.l0 k y489 l0 (l0.length : Int) 0) = some r := by first | (rw [hy489]; with_reducible exact H) | (have H2_ := (Option.bind_some _ _).symm.trans H; rw [hy489]; with_reducible exact H2_) | (have H2_ := (Option.bind_some _ _).symm.trans H; with_reducible exact H2_) | with_reducible exact H | (rw [hy489]; exact H) | exact H
 have Ny489 := Aside0.mk hy489
 clear hy489
 have H' := Aside0.mk H
 clear H
 go_enter Try.func54, Try.ntmps54
 go_wp2_with (first | ((with_reducible refine gd 6 rfl ?_); (try (refine gate_guard (by rfl) ?_; dsimp only)); refine Kd.R_lit k51 _ 51 ?hg (N := 6) ?hd (xs := ([] : List (S51))) (inner := []) (ok := fun _ => True) (okp := fun _ => True) ?hr ?hp (fun _ hk => hk) trivial (Below.refl _ _) (Nat.le_refl _) (by simp) ?_; (case hd => rfl); (case hg => rfl); (case hr => first | (go_simp; done) | (go_simp; rfl)); (case hp => exact (Reps.none _ _)); intro v490 w2 ho3 hb hg_ hnew_; clear hg_ hnew_; (first | rw [← Ny489.out] at ho3 | (simp only [Int.reduceToNat] at ho3; rw [← Ny489.out] at ho3)); have HO491 := asd (Kd.R_lower ho3 (bsz0 HB)); replace HB := bS0 HB hb; clear hb ho3))
 repeat (go_quiet (first | ((with_reducible refine gd 6 rfl ?_); (try (refine gate_guard (by rfl) ?_; dsimp only)); refine Kd.R_lit k51 _ 51 ?hg (N := 6) ?hd (xs := ([] : List (S51))) (inner := []) (ok := fun _ => True) (okp := fun _ => True) ?hr ?hp (fun _ hk => hk) trivial (Below.refl _ _) (Nat.le_refl _) (by simp) ?_; (case hd => rfl); (case hg => rfl); (case hr => first | (go_simp; done) | (go_simp; rfl)); (case hp => exact (Reps.none _ _)); intro v490 w2 ho3 hb hg_ hnew_; clear hg_ hnew_; (first | rw [← Ny489.out] at ho3 | (simp only [Int.reduceToNat] at ho3; rw [← Ny489.out] at ho3)); have HO491 := asd (Kd.R_lower ho3 (bsz0 HB)); replace HB := bS0 HB hb; clear hb ho3)); try go_wp2_with (first | ((with_reducible refine gd 6 rfl ?_); (try (refine gate_guard (by rfl) ?_; dsimp only)); refine Kd.R_lit k51 _ 51 ?hg (N := 6) ?hd (xs := ([] : List (S51))) (inner := []) (ok := fun _ => True) (okp := fun _ => True) ?hr ?hp (fun _ hk => hk) trivial (Below.refl _ _) (Nat.le_refl _) (by simp) ?_; (case hd => rfl); (case hg => rfl); (case hr => first | (go_simp; done) | (go_simp; rfl)); (case hp => exact (Reps.none _ _)); intro v490 w2 ho3 hb hg_ hnew_; clear hg_ hnew_; (first | rw [← Ny489.out] at ho3 | (simp only [Int.reduceToNat] at ho3; rw [← Ny489.out] at ho3)); have HO491 := asd (Kd.R_lower ho3 (bsz0 HB)); replace HB := bS0 HB hb; clear hb ho3)))
 go_loopg [3, 9] k (fun kq v3 v9 w' => ∃ (x3_1 : List (S51)) (x9_1 : Int), v9 = .int .i64 x9_1 ∧ Aside0 (impl_pointPart.l0 kq x3_1 l0 (l0.length : Int) x9_1 = some r) ∧ Aside0 (kq ≤ k) ∧ Aside0 (Kd.R k51 51 w' w.heap.size (fun _ => True) v3 x3_1) ∧ Aside0 (Below w.heap.size w w'))
 case atStart => exact ⟨(y489), (0), (by first | rfl | (simp; done) | (simp [*]; done)), H', ⟨Nat.le_refl _⟩, ⟨by (with_reducible repeat (first | apply Kd.R_alloc | apply Kd.R_drewN | apply Kd.R_drew)); exact HO491.out⟩, ⟨bbw0 HB⟩⟩
 case round =>
  clear H'
  try clear p2
  obtain ⟨x3_1, x9_1, rfl, HA, HK1, HO_3, HB⟩ := hrel
  cases gk with
  | zero => exact absurd HA.out (by simp [impl_pointPart.l0])
  | succ k1 =>
   have H := HA.out
   clear HA
   simp only [impl_pointPart.l0] at H
   by_cases c4 : x9_1 < (l0.length : Int)
   ·rw [if_pos c4] at H
    have c4b0 : decide (x9_1 < (l0.length : Int)) = true := decide_eq_true c4
    clear c4
    by_cases c5 : 0 ≤ x9_1
    ·rw [if_pos c5] at H
     have c5b0 : decide (0 ≤ x9_1) = true := decide_eq_true c5
     clear c5
     by_cases c6 : x9_1 < (l0.length : Int)
     ·rw [if_pos c6] at H
      have c6b0 : decide (x9_1 < (l0.length : Int)) = true := decide_eq_true c6
      clear c6
      by_cases c7 : (x3_1.length : Int) = 0
      ·rw [if_pos c7] at H
       have c7b0 : ((x3_1.length : Int) == 0) = true := beq_iff_eq.mpr c7
       have c7b1 : ((x3_1.length : Int) != 0) = false := bne_eq_false_iff_eq.mpr c7
       clear c7
       by_cases c8 : x3_1.length < 4398046511104
       ·rw [if_pos c8] at H
        have LMc8 := Aside0.mk c8
        clear c8
        obtain ⟨y494, hy494⟩ : ∃ y_ : List (S51), y_ = (x3_1 ++ [(⟨(rd_T55 l0 x9_1).f0.f0, (rd_T55 l0 x9_1).f0.f1, (rd_T55 l0 x9_1).f0.f2, (rd_T55 l0 x9_1).f0.f3⟩ : S51)]) := ⟨_, rfl⟩
        replace H : (impl_pointPart.l0 k1 y494 l0 (l0.length : Int) (wrap64 (x9_1 + 1))) = some r := by first | (rw [hy494]; with_reducible exact H) | (have H2_ := (Option.bind_some _ _).symm.trans H; rw [hy494]; with_reducible exact H2_) | (have H2_ := (Option.bind_some _ _).symm.trans H; with_reducible exact H2_) | with_reducible exact H | (rw [hy494]; exact H) | exact H
        have Ny494 := Aside0.mk hy494
        clear hy494
        have H' := Aside0.mk H
        clear H
        obtain ⟨p492, q492, ad492, e492, hx492_0, hx492_1, hx492_2, hx492_3, hx492_4, hx492_5⟩ := at_T55x HR0.out HB x9_1
        cases e492
        go_wp2_with (first | ((with_reducible refine gd 5 rfl ?_); (try (refine gate_guard (by rfl) ?_; dsimp only)); refine bx #[.int .i64 0, .int .i64 0, .int .i64 0, .int .i64 0, .int .i64 0, .int .i64 0] 55 ?_; intro gb493 hg w9 BK493 hb; replace HO_3 := asd (Kd.R_below (kr HO_3) hb); have GE493 := ngw0 hg HB; replace HB := bS0 HB hb; clear hb hg; obtain ⟨hcz10_0, hcz10_1, hcz10_2, hcz10_3, hcz10_4, hcz10_5, hfz10_0, hfz10_1, hfz10_2, hfz10_3, hfz10_4, hfz10_5⟩ := bz6 BK493; obtain ⟨Ao11, co11, eo11⟩ := Kd.R_slice HO_3.out; subst eo11) | ((with_reducible refine gate_builtin (b := .append) (xs := #[.tmp 27, .tmp 30]) rfl ?_); (try (refine gate_guard (by rfl) ?_; dsimp only)); at_builtin; refine Kd.R_append k51 (w0 := w) w.heap.size rfl (.tmp 27) (.tmp 30) 44 51 (.agg #[(.int .i64 0), (.int .i64 0), (.int .i64 0), (.int .i64 0)]) 32 rfl Try.underlying44 info51 rfl (by decide) (by omega) (.slice Ao11 x3_1.length co11) x3_1 (⟨(rd_T55 l0 x9_1).f0.f0, (rd_T55 l0 x9_1).f0.f1, (rd_T55 l0 x9_1).f0.f2, (rd_T55 l0 x9_1).f0.f3⟩ : S51) [.int .i64 ((rd_T55 l0 x9_1).f0.f0), .int .i64 ((rd_T55 l0 x9_1).f0.f1), .int .i64 ((rd_T55 l0 x9_1).f0.f2), .int .i64 ((rd_T55 l0 x9_1).f0.f3)] (fun _ => True) (fun _ => False) rfl (by first | (go_simp; done) | (go_simp; rfl)) ?aP (fun _ hk => hk.elim) ?aF ?aO ?aB ?aS ?aL ?_; (case aP => exact k51_mkM _ _ _ (⟨(rd_T55 l0 x9_1).f0.f0, (rd_T55 l0 x9_1).f0.f1, (rd_T55 l0 x9_1).f0.f2, (rd_T55 l0 x9_1).f0.f3⟩ : S51)); (case aB => exact (bbw1 HB GE493)); (case aF => exact (fun _ _ => trivial)); (case aO => exact (by (with_reducible repeat (first | apply Kd.R_alloc | apply Kd.R_drewN | apply Kd.R_drew)); exact Kd.R_mono (rw6 (Kd.R_types HO_3.out BK493.out (by decide))) (fun _ hk => trivial))); (case aS => exact (bsz1 HB GE493)); (case aL => have := LMc8.out; omega); intro v495 w12 ho hb hg hat; rw [← Ny494.out] at ho; have n0_ := asd (blk_grown (g := gb493) (o := .cells #[.int .i64 ((rd_T55 l0 x9_1).f0.f0), .int .i64 ((rd_T55 l0 x9_1).f0.f1), .int .i64 ((rd_T55 l0 x9_1).f0.f2), .int .i64 ((rd_T55 l0 x9_1).f0.f3), .int .i64 ((rd_T55 l0 x9_1).f1.f0), .int .i64 ((rd_T55 l0 x9_1).f1.f1)] 55 (0, 0)) (bq0 BK493) hg (Kd.R_ne HO_3.out BK493.out (by decide))); have n1_ := asd (hb); have n2_ := asd (ho); clear BK493; clear HB; clear HO_3; have BK493 := n0_; have HB := n1_; have HO496 := n2_; clear n0_ n1_ n2_; clear ho hb hg hat))
        repeat (go_quiet (first | ((with_reducible refine gd 5 rfl ?_); (try (refine gate_guard (by rfl) ?_; dsimp only)); refine bx #[.int .i64 0, .int .i64 0, .int .i64 0, .int .i64 0, .int .i64 0, .int .i64 0] 55 ?_; intro gb493 hg w9 BK493 hb; replace HO_3 := asd (Kd.R_below (kr HO_3) hb); have GE493 := ngw0 hg HB; replace HB := bS0 HB hb; clear hb hg; obtain ⟨hcz10_0, hcz10_1, hcz10_2, hcz10_3, hcz10_4, hcz10_5, hfz10_0, hfz10_1, hfz10_2, hfz10_3, hfz10_4, hfz10_5⟩ := bz6 BK493; obtain ⟨Ao11, co11, eo11⟩ := Kd.R_slice HO_3.out; subst eo11) | ((with_reducible refine gate_builtin (b := .append) (xs := #[.tmp 27, .tmp 30]) rfl ?_); (try (refine gate_guard (by rfl) ?_; dsimp only)); at_builtin; refine Kd.R_append k51 (w0 := w) w.heap.size rfl (.tmp 27) (.tmp 30) 44 51 (.agg #[(.int .i64 0), (.int .i64 0), (.int .i64 0), (.int .i64 0)]) 32 rfl Try.underlying44 info51 rfl (by decide) (by omega) (.slice Ao11 x3_1.length co11) x3_1 (⟨(rd_T55 l0 x9_1).f0.f0, (rd_T55 l0 x9_1).f0.f1, (rd_T55 l0 x9_1).f0.f2, (rd_T55 l0 x9_1).f0.f3⟩ : S51) [.int .i64 ((rd_T55 l0 x9_1).f0.f0), .int .i64 ((rd_T55 l0 x9_1).f0.f1), .int .i64 ((rd_T55 l0 x9_1).f0.f2), .int .i64 ((rd_T55 l0 x9_1).f0.f3)] (fun _ => True) (fun _ => False) rfl (by first | (go_simp; done) | (go_simp; rfl)) ?aP (fun _ hk => hk.elim) ?aF ?aO ?aB ?aS ?aL ?_; (case aP => exact k51_mkM _ _ _ (⟨(rd_T55 l0 x9_1).f0.f0, (rd_T55 l0 x9_1).f0.f1, (rd_T55 l0 x9_1).f0.f2, (rd_T55 l0 x9_1).f0.f3⟩ : S51)); (case aB => exact (bbw1 HB GE493)); (case aF => exact (fun _ _ => trivial)); (case aO => exact (by (with_reducible repeat (first | apply Kd.R_alloc | apply Kd.R_drewN | apply Kd.R_drew)); exact Kd.R_mono (rw6 (Kd.R_types HO_3.out BK493.out (by decide))) (fun _ hk => trivial))); (case aS => exact (bsz1 HB GE493)); (case aL => have := LMc8.out; omega); intro v495 w12 ho hb hg hat; rw [← Ny494.out] at ho; have n0_ := asd (blk_grown (g := gb493) (o := .cells #[.int .i64 ((rd_T55 l0 x9_1).f0.f0), .int .i64 ((rd_T55 l0 x9_1).f0.f1), .int .i64 ((rd_T55 l0 x9_1).f0.f2), .int .i64 ((rd_T55 l0 x9_1).f0.f3), .int .i64 ((rd_T55 l0 x9_1).f1.f0), .int .i64 ((rd_T55 l0 x9_1).f1.f1)] 55 (0, 0)) (bq0 BK493) hg (Kd.R_ne HO_3.out BK493.out (by decide))); have n1_ := asd (hb); have n2_ := asd (ho); clear BK493; clear HB; clear HO_3; have BK493 := n0_; have HB := n1_; have HO496 := n2_; clear n0_ n1_ n2_; clear ho hb hg hat)); try go_wp2_with (first | ((with_reducible refine gd 5 rfl ?_); (try (refine gate_guard (by rfl) ?_; dsimp only)); refine bx #[.int .i64 0, .int .i64 0, .int .i64 0, .int .i64 0, .int .i64 0, .int .i64 0] 55 ?_; intro gb493 hg w9 BK493 hb; replace HO_3 := asd (Kd.R_below (kr HO_3) hb); have GE493 := ngw0 hg HB; replace HB := bS0 HB hb; clear hb hg; obtain ⟨hcz10_0, hcz10_1, hcz10_2, hcz10_3, hcz10_4, hcz10_5, hfz10_0, hfz10_1, hfz10_2, hfz10_3, hfz10_4, hfz10_5⟩ := bz6 BK493; obtain ⟨Ao11, co11, eo11⟩ := Kd.R_slice HO_3.out; subst eo11) | ((with_reducible refine gate_builtin (b := .append) (xs := #[.tmp 27, .tmp 30]) rfl ?_); (try (refine gate_guard (by rfl) ?_; dsimp only)); at_builtin; refine Kd.R_append k51 (w0 := w) w.heap.size rfl (.tmp 27) (.tmp 30) 44 51 (.agg #[(.int .i64 0), (.int .i64 0), (.int .i64 0), (.int .i64 0)]) 32 rfl Try.underlying44 info51 rfl (by decide) (by omega) (.slice Ao11 x3_1.length co11) x3_1 (⟨(rd_T55 l0 x9_1).f0.f0, (rd_T55 l0 x9_1).f0.f1, (rd_T55 l0 x9_1).f0.f2, (rd_T55 l0 x9_1).f0.f3⟩ : S51) [.int .i64 ((rd_T55 l0 x9_1).f0.f0), .int .i64 ((rd_T55 l0 x9_1).f0.f1), .int .i64 ((rd_T55 l0 x9_1).f0.f2), .int .i64 ((rd_T55 l0 x9_1).f0.f3)] (fun _ => True) (fun _ => False) rfl (by first | (go_simp; done) | (go_simp; rfl)) ?aP (fun _ hk => hk.elim) ?aF ?aO ?aB ?aS ?aL ?_; (case aP => exact k51_mkM _ _ _ (⟨(rd_T55 l0 x9_1).f0.f0, (rd_T55 l0 x9_1).f0.f1, (rd_T55 l0 x9_1).f0.f2, (rd_T55 l0 x9_1).f0.f3⟩ : S51)); (case aB => exact (bbw1 HB GE493)); (case aF => exact (fun _ _ => trivial)); (case aO => exact (by (with_reducible repeat (first | apply Kd.R_alloc | apply Kd.R_drewN | apply Kd.R_drew)); exact Kd.R_mono (rw6 (Kd.R_types HO_3.out BK493.out (by decide))) (fun _ hk => trivial))); (case aS => exact (bsz1 HB GE493)); (case aL => have := LMc8.out; omega); intro v495 w12 ho hb hg hat; rw [← Ny494.out] at ho; have n0_ := asd (blk_grown (g := gb493) (o := .cells #[.int .i64 ((rd_T55 l0 x9_1).f0.f0), .int .i64 ((rd_T55 l0 x9_1).f0.f1), .int .i64 ((rd_T55 l0 x9_1).f0.f2), .int .i64 ((rd_T55 l0 x9_1).f0.f3), .int .i64 ((rd_T55 l0 x9_1).f1.f0), .int .i64 ((rd_T55 l0 x9_1).f1.f1)] 55 (0, 0)) (bq0 BK493) hg (Kd.R_ne HO_3.out BK493.out (by decide))); have n1_ := asd (hb); have n2_ := asd (ho); clear BK493; clear HB; clear HO_3; have BK493 := n0_; have HB := n1_; have HO496 := n2_; clear n0_ n1_ n2_; clear ho hb hg hat)))
        go_roundg k1
        case measure => have := HK1.out; omega
        case rel => exact ⟨(y494), (wrap64 (x9_1 + 1)), (by first | rfl | (simp; done) | (simp [*]; done)), H', ⟨by have := HK1.out; omega⟩, ⟨by (with_reducible repeat (first | apply Kd.R_alloc | apply Kd.R_drewN | apply Kd.R_drew)); exact HO496.out⟩, ⟨bbw1 HB GE493⟩⟩
       ·rw [if_neg c8] at H
        exact absurd H (by simp)
      ·rw [if_neg c7] at H
       have c7b0 : ((x3_1.length : Int) == 0) = false := beq_eq_false_iff_ne.mpr c7
       have c7b1 : ((x3_1.length : Int) != 0) = true := bne_iff_ne.mpr c7
       have c7b2 : ¬ (x3_1 = []) := fun h_ => c7 (by rw [h_]; rfl)
       obtain ⟨ji13, hji13⟩ : ∃ j_ : Int, (wrap64 ((x3_1.length : Int) - 1)) = j_ := ⟨_, rfl⟩
       replace H : (if 0 ≤ (ji13) then (if (ji13) < (x3_1.length : Int) then (if (!(((rd_T51 x3_1 (ji13)).f0) == ((rd_T55 l0 x9_1).f0.f0)) || (!(((rd_T51 x3_1 (ji13)).f1) == ((rd_T55 l0 x9_1).f0.f1)) || (!(((rd_T51 x3_1 (ji13)).f2) == ((rd_T55 l0 x9_1).f0.f2)) || (!(((rd_T51 x3_1 (ji13)).f3) == ((rd_T55 l0 x9_1).f0.f3)))))) = true then (if x3_1.length < 4398046511104 then (impl_pointPart.l0 k1 (x3_1 ++ [(⟨(rd_T55 l0 x9_1).f0.f0, (rd_T55 l0 x9_1).f0.f1, (rd_T55 l0 x9_1).f0.f2, (rd_T55 l0 x9_1).f0.f3⟩ : S51)]) l0 (l0.length : Int) (wrap64 (x9_1 + 1))) else (none)) else (impl_pointPart.l0 k1 x3_1 l0 (l0.length : Int) (wrap64 (x9_1 + 1)))) else (none)) else (none)) = some r := by first | (rw [hji13] at H; first | done | exact H) | (simp only [hji13] at H ⊢; exact H)
       have hji13w : (IntKind.i64.wrap ((x3_1.length : Int) - 1)) = ji13 := (i64_w _).trans hji13
       by_cases c14 : 0 ≤ (ji13)
       ·rw [if_pos c14] at H
        have c14b0 : decide (0 ≤ (ji13)) = true := decide_eq_true c14
        clear c14
        by_cases c15 : (ji13) < (x3_1.length : Int)
        ·rw [if_pos c15] at H
         have c15b0 : decide ((ji13) < (x3_1.length : Int)) = true := decide_eq_true c15
         clear c15
         by_cases c16 : (!(((rd_T51 x3_1 (ji13)).f0) == ((rd_T55 l0 x9_1).f0.f0)) || (!(((rd_T51 x3_1 (ji13)).f1) == ((rd_T55 l0 x9_1).f0.f1)) || (!(((rd_T51 x3_1 (ji13)).f2) == ((rd_T55 l0 x9_1).f0.f2)) || (!(((rd_T51 x3_1 (ji13)).f3) == ((rd_T55 l0 x9_1).f0.f3)))))) = true
         ·rw [if_pos c16] at H
          have c16b0 : (!(((rd_T51 x3_1 (ji13)).f0) == ((rd_T55 l0 x9_1).f0.f0)) || (!(((rd_T51 x3_1 (ji13)).f1) == ((rd_T55 l0 x9_1).f0.f1)) || (!(((rd_T51 x3_1 (ji13)).f2) == ((rd_T55 l0 x9_1).f0.f2)) || (!(((rd_T51 x3_1 (ji13)).f3) == ((rd_T55 l0 x9_1).f0.f3)))))) = true := c16
          clear c16
          by_cases c17 : x3_1.length < 4398046511104
          ·rw [if_pos c17] at H
           have LMc17 := Aside0.mk c17
           clear c17
           obtain ⟨y498, hy498⟩ : ∃ y_ : List (S51), y_ = (x3_1 ++ [(⟨(rd_T55 l0 x9_1).f0.f0, (rd_T55 l0 x9_1).f0.f1, (rd_T55 l0 x9_1).f0.f2, (rd_T55 l0 x9_1).f0.f3⟩ : S51)]) := ⟨_, rfl⟩
           replace H : (impl_pointPart.l0 k1 y498 l0 (l0.length : Int) (wrap64 (x9_1 + 1))) = some r := by first | (rw [hy498]; with_reducible exact H) | (have H2_ := (Option.bind_some _ _).symm.trans H; rw [hy498]; with_reducible exact H2_) | (have H2_ := (Option.bind_some _ _).symm.trans H; with_reducible exact H2_) | with_reducible exact H | (rw [hy498]; exact H) | exact H
           have Ny498 := Aside0.mk hy498
           clear hy498
           have H' := Aside0.mk H
           clear H
           obtain ⟨p492, q492, ad492, e492, hx492_0, hx492_1, hx492_2, hx492_3, hx492_4, hx492_5⟩ := at_T55x HR0.out HB x9_1
           cases e492
           go_wp2_with (first | ((with_reducible refine gd 5 rfl ?_); (try (refine gate_guard (by rfl) ?_; dsimp only)); refine bx #[.int .i64 0, .int .i64 0, .int .i64 0, .int .i64 0, .int .i64 0, .int .i64 0] 55 ?_; intro gb493 hg w18 BK493 hb; replace HO_3 := asd (Kd.R_below (kr HO_3) hb); have GE493 := ngw0 hg HB; replace HB := bS0 HB hb; clear hb hg; obtain ⟨hcz19_0, hcz19_1, hcz19_2, hcz19_3, hcz19_4, hcz19_5, hfz19_0, hfz19_1, hfz19_2, hfz19_3, hfz19_4, hfz19_5⟩ := bz6 BK493; obtain ⟨Ao20, co20, eo20⟩ := Kd.R_slice HO_3.out; subst eo20; have p497 : 0 ≤ ((ji13) : Int) := od; have q497 : (ji13) < (x3_1.length : Int) := od; obtain ⟨ad497, e497, hx497_0, hx497_1, hx497_2, hx497_3⟩ := at_T51 (Kd.R_reads' HO_3.out).2.2 (ji13) p497 q497; cases e497; have hn497_0 : ad497.block ≠ gb493 := Kd.own_blk (Kd.R_ne HO_3.out BK493.out (by decide)); have hn497_1 : ad497.block ≠ gb493 := Kd.own_blk (Kd.R_ne HO_3.out BK493.out (by decide)); have hn497_2 : ad497.block ≠ gb493 := Kd.own_blk (Kd.R_ne HO_3.out BK493.out (by decide)); have hn497_3 : ad497.block ≠ gb493 := Kd.own_blk (Kd.R_ne HO_3.out BK493.out (by decide)); have hn497_4 : ad497.block ≠ gb493 := Kd.own_blk (Kd.R_ne HO_3.out BK493.out (by decide)); have hn497_5 : ad497.block ≠ gb493 := Kd.own_blk (Kd.R_ne HO_3.out BK493.out (by decide)); replace hx497_0 := cw6 (.int .i64 ((rd_T55 l0 x9_1).f0.f0)) (.int .i64 ((rd_T55 l0 x9_1).f0.f1)) (.int .i64 ((rd_T55 l0 x9_1).f0.f2)) (.int .i64 ((rd_T55 l0 x9_1).f0.f3)) (.int .i64 ((rd_T55 l0 x9_1).f1.f0)) (.int .i64 ((rd_T55 l0 x9_1).f1.f1)) hn497_0 hx497_0; replace hx497_1 := cw6 (.int .i64 ((rd_T55 l0 x9_1).f0.f0)) (.int .i64 ((rd_T55 l0 x9_1).f0.f1)) (.int .i64 ((rd_T55 l0 x9_1).f0.f2)) (.int .i64 ((rd_T55 l0 x9_1).f0.f3)) (.int .i64 ((rd_T55 l0 x9_1).f1.f0)) (.int .i64 ((rd_T55 l0 x9_1).f1.f1)) hn497_0 hx497_1; replace hx497_2 := cw6 (.int .i64 ((rd_T55 l0 x9_1).f0.f0)) (.int .i64 ((rd_T55 l0 x9_1).f0.f1)) (.int .i64 ((rd_T55 l0 x9_1).f0.f2)) (.int .i64 ((rd_T55 l0 x9_1).f0.f3)) (.int .i64 ((rd_T55 l0 x9_1).f1.f0)) (.int .i64 ((rd_T55 l0 x9_1).f1.f1)) hn497_0 hx497_2; replace hx497_3 := cw6 (.int .i64 ((rd_T55 l0 x9_1).f0.f0)) (.int .i64 ((rd_T55 l0 x9_1).f0.f1)) (.int .i64 ((rd_T55 l0 x9_1).f0.f2)) (.int .i64 ((rd_T55 l0 x9_1).f0.f3)) (.int .i64 ((rd_T55 l0 x9_1).f1.f0)) (.int .i64 ((rd_T55 l0 x9_1).f1.f1)) hn497_0 hx497_3; (try have hy497_0 := dw6 hx497_0); (try have hy497_1 := dw6 hx497_1); (try have hy497_2 := dw6 hx497_2); (try have hy497_3 := dw6 hx497_3); clear hn497_0; clear hn497_1; clear hn497_2; clear hn497_3; clear hn497_4; clear hn497_5; replace p497 := eq_true p497; replace q497 := eq_true q497) | ((with_reducible refine gate_builtin (b := .append) (xs := #[.tmp 27, .tmp 30]) rfl ?_); (try (refine gate_guard (by rfl) ?_; dsimp only)); at_builtin; refine Kd.R_append k51 (w0 := w) w.heap.size rfl (.tmp 27) (.tmp 30) 44 51 (.agg #[(.int .i64 0), (.int .i64 0), (.int .i64 0), (.int .i64 0)]) 32 rfl Try.underlying44 info51 rfl (by decide) (by omega) (.slice (some ad497) x3_1.length co20) x3_1 (⟨(rd_T55 l0 x9_1).f0.f0, (rd_T55 l0 x9_1).f0.f1, (rd_T55 l0 x9_1).f0.f2, (rd_T55 l0 x9_1).f0.f3⟩ : S51) [.int .i64 ((rd_T55 l0 x9_1).f0.f0), .int .i64 ((rd_T55 l0 x9_1).f0.f1), .int .i64 ((rd_T55 l0 x9_1).f0.f2), .int .i64 ((rd_T55 l0 x9_1).f0.f3)] (fun _ => True) (fun _ => False) rfl (by first | (go_simp; done) | (go_simp; rfl)) ?aP (fun _ hk => hk.elim) ?aF ?aO ?aB ?aS ?aL ?_; (case aP => exact k51_mkM _ _ _ (⟨(rd_T55 l0 x9_1).f0.f0, (rd_T55 l0 x9_1).f0.f1, (rd_T55 l0 x9_1).f0.f2, (rd_T55 l0 x9_1).f0.f3⟩ : S51)); (case aB => exact (bbw1 HB GE493)); (case aF => exact (fun _ _ => trivial)); (case aO => exact (by (with_reducible repeat (first | apply Kd.R_alloc | apply Kd.R_drewN | apply Kd.R_drew)); exact Kd.R_mono (rw6 (Kd.R_types HO_3.out BK493.out (by decide))) (fun _ hk => trivial))); (case aS => exact (bsz1 HB GE493)); (case aL => have := LMc17.out; omega); intro v499 w21 ho hb hg hat; rw [← Ny498.out] at ho; have n0_ := asd (blk_grown (g := gb493) (o := .cells #[.int .i64 ((rd_T55 l0 x9_1).f0.f0), .int .i64 ((rd_T55 l0 x9_1).f0.f1), .int .i64 ((rd_T55 l0 x9_1).f0.f2), .int .i64 ((rd_T55 l0 x9_1).f0.f3), .int .i64 ((rd_T55 l0 x9_1).f1.f0), .int .i64 ((rd_T55 l0 x9_1).f1.f1)] 55 (0, 0)) (bq0 BK493) hg (Kd.R_ne HO_3.out BK493.out (by decide))); have n1_ := asd (hb); have n2_ := asd (ho); clear BK493; clear HB; clear HO_3; have BK493 := n0_; have HB := n1_; have HO500 := n2_; clear n0_ n1_ n2_; clear ho hb hg hat))
           repeat (go_quiet (first | ((with_reducible refine gd 5 rfl ?_); (try (refine gate_guard (by rfl) ?_; dsimp only)); refine bx #[.int .i64 0, .int .i64 0, .int .i64 0, .int .i64 0, .int .i64 0, .int .i64 0] 55 ?_; intro gb493 hg w18 BK493 hb; replace HO_3 := asd (Kd.R_below (kr HO_3) hb); have GE493 := ngw0 hg HB; replace HB := bS0 HB hb; clear hb hg; obtain ⟨hcz19_0, hcz19_1, hcz19_2, hcz19_3, hcz19_4, hcz19_5, hfz19_0, hfz19_1, hfz19_2, hfz19_3, hfz19_4, hfz19_5⟩ := bz6 BK493; obtain ⟨Ao20, co20, eo20⟩ := Kd.R_slice HO_3.out; subst eo20; have p497 : 0 ≤ ((ji13) : Int) := od; have q497 : (ji13) < (x3_1.length : Int) := od; obtain ⟨ad497, e497, hx497_0, hx497_1, hx497_2, hx497_3⟩ := at_T51 (Kd.R_reads' HO_3.out).2.2 (ji13) p497 q497; cases e497; have hn497_0 : ad497.block ≠ gb493 := Kd.own_blk (Kd.R_ne HO_3.out BK493.out (by decide)); have hn497_1 : ad497.block ≠ gb493 := Kd.own_blk (Kd.R_ne HO_3.out BK493.out (by decide)); have hn497_2 : ad497.block ≠ gb493 := Kd.own_blk (Kd.R_ne HO_3.out BK493.out (by decide)); have hn497_3 : ad497.block ≠ gb493 := Kd.own_blk (Kd.R_ne HO_3.out BK493.out (by decide)); have hn497_4 : ad497.block ≠ gb493 := Kd.own_blk (Kd.R_ne HO_3.out BK493.out (by decide)); have hn497_5 : ad497.block ≠ gb493 := Kd.own_blk (Kd.R_ne HO_3.out BK493.out (by decide)); replace hx497_0 := cw6 (.int .i64 ((rd_T55 l0 x9_1).f0.f0)) (.int .i64 ((rd_T55 l0 x9_1).f0.f1)) (.int .i64 ((rd_T55 l0 x9_1).f0.f2)) (.int .i64 ((rd_T55 l0 x9_1).f0.f3)) (.int .i64 ((rd_T55 l0 x9_1).f1.f0)) (.int .i64 ((rd_T55 l0 x9_1).f1.f1)) hn497_0 hx497_0; replace hx497_1 := cw6 (.int .i64 ((rd_T55 l0 x9_1).f0.f0)) (.int .i64 ((rd_T55 l0 x9_1).f0.f1)) (.int .i64 ((rd_T55 l0 x9_1).f0.f2)) (.int .i64 ((rd_T55 l0 x9_1).f0.f3)) (.int .i64 ((rd_T55 l0 x9_1).f1.f0)) (.int .i64 ((rd_T55 l0 x9_1).f1.f1)) hn497_0 hx497_1; replace hx497_2 := cw6 (.int .i64 ((rd_T55 l0 x9_1).f0.f0)) (.int .i64 ((rd_T55 l0 x9_1).f0.f1)) (.int .i64 ((rd_T55 l0 x9_1).f0.f2)) (.int .i64 ((rd_T55 l0 x9_1).f0.f3)) (.int .i64 ((rd_T55 l0 x9_1).f1.f0)) (.int .i64 ((rd_T55 l0 x9_1).f1.f1)) hn497_0 hx497_2; replace hx497_3 := cw6 (.int .i64 ((rd_T55 l0 x9_1).f0.f0)) (.int .i64 ((rd_T55 l0 x9_1).f0.f1)) (.int .i64 ((rd_T55 l0 x9_1).f0.f2)) (.int .i64 ((rd_T55 l0 x9_1).f0.f3)) (.int .i64 ((rd_T55 l0 x9_1).f1.f0)) (.int .i64 ((rd_T55 l0 x9_1).f1.f1)) hn497_0 hx497_3; (try have hy497_0 := dw6 hx497_0); (try have hy497_1 := dw6 hx497_1); (try have hy497_2 := dw6 hx497_2); (try have hy497_3 := dw6 hx497_3); clear hn497_0; clear hn497_1; clear hn497_2; clear hn497_3; clear hn497_4; clear hn497_5; replace p497 := eq_true p497; replace q497 := eq_true q497) | ((with_reducible refine gate_builtin (b := .append) (xs := #[.tmp 27, .tmp 30]) rfl ?_); (try (refine gate_guard (by rfl) ?_; dsimp only)); at_builtin; refine Kd.R_append k51 (w0 := w) w.heap.size rfl (.tmp 27) (.tmp 30) 44 51 (.agg #[(.int .i64 0), (.int .i64 0), (.int .i64 0), (.int .i64 0)]) 32 rfl Try.underlying44 info51 rfl (by decide) (by omega) (.slice (some ad497) x3_1.length co20) x3_1 (⟨(rd_T55 l0 x9_1).f0.f0, (rd_T55 l0 x9_1).f0.f1, (rd_T55 l0 x9_1).f0.f2, (rd_T55 l0 x9_1).f0.f3⟩ : S51) [.int .i64 ((rd_T55 l0 x9_1).f0.f0), .int .i64 ((rd_T55 l0 x9_1).f0.f1), .int .i64 ((rd_T55 l0 x9_1).f0.f2), .int .i64 ((rd_T55 l0 x9_1).f0.f3)] (fun _ => True) (fun _ => False) rfl (by first | (go_simp; done) | (go_simp; rfl)) ?aP (fun _ hk => hk.elim) ?aF ?aO ?aB ?aS ?aL ?_; (case aP => exact k51_mkM _ _ _ (⟨(rd_T55 l0 x9_1).f0.f0, (rd_T55 l0 x9_1).f0.f1, (rd_T55 l0 x9_1).f0.f2, (rd_T55 l0 x9_1).f0.f3⟩ : S51)); (case aB => exact (bbw1 HB GE493)); (case aF => exact (fun _ _ => trivial)); (case aO => exact (by (with_reducible repeat (first | apply Kd.R_alloc | apply Kd.R_drewN | apply Kd.R_drew)); exact Kd.R_mono (rw6 (Kd.R_types HO_3.out BK493.out (by decide))) (fun _ hk => trivial))); (case aS => exact (bsz1 HB GE493)); (case aL => have := LMc17.out; omega); intro v499 w21 ho hb hg hat; rw [← Ny498.out] at ho; have n0_ := asd (blk_grown (g := gb493) (o := .cells #[.int .i64 ((rd_T55 l0 x9_1).f0.f0), .int .i64 ((rd_T55 l0 x9_1).f0.f1), .int .i64 ((rd_T55 l0 x9_1).f0.f2), .int .i64 ((rd_T55 l0 x9_1).f0.f3), .int .i64 ((rd_T55 l0 x9_1).f1.f0), .int .i64 ((rd_T55 l0 x9_1).f1.f1)] 55 (0, 0)) (bq0 BK493) hg (Kd.R_ne HO_3.out BK493.out (by decide))); have n1_ := asd (hb); have n2_ := asd (ho); clear BK493; clear HB; clear HO_3; have BK493 := n0_; have HB := n1_; have HO500 := n2_; clear n0_ n1_ n2_; clear ho hb hg hat)); try go_wp2_with (first | ((with_reducible refine gd 5 rfl ?_); (try (refine gate_guard (by rfl) ?_; dsimp only)); refine bx #[.int .i64 0, .int .i64 0, .int .i64 0, .int .i64 0, .int .i64 0, .int .i64 0] 55 ?_; intro gb493 hg w18 BK493 hb; replace HO_3 := asd (Kd.R_below (kr HO_3) hb); have GE493 := ngw0 hg HB; replace HB := bS0 HB hb; clear hb hg; obtain ⟨hcz19_0, hcz19_1, hcz19_2, hcz19_3, hcz19_4, hcz19_5, hfz19_0, hfz19_1, hfz19_2, hfz19_3, hfz19_4, hfz19_5⟩ := bz6 BK493; obtain ⟨Ao20, co20, eo20⟩ := Kd.R_slice HO_3.out; subst eo20; have p497 : 0 ≤ ((ji13) : Int) := od; have q497 : (ji13) < (x3_1.length : Int) := od; obtain ⟨ad497, e497, hx497_0, hx497_1, hx497_2, hx497_3⟩ := at_T51 (Kd.R_reads' HO_3.out).2.2 (ji13) p497 q497; cases e497; have hn497_0 : ad497.block ≠ gb493 := Kd.own_blk (Kd.R_ne HO_3.out BK493.out (by decide)); have hn497_1 : ad497.block ≠ gb493 := Kd.own_blk (Kd.R_ne HO_3.out BK493.out (by decide)); have hn497_2 : ad497.block ≠ gb493 := Kd.own_blk (Kd.R_ne HO_3.out BK493.out (by decide)); have hn497_3 : ad497.block ≠ gb493 := Kd.own_blk (Kd.R_ne HO_3.out BK493.out (by decide)); have hn497_4 : ad497.block ≠ gb493 := Kd.own_blk (Kd.R_ne HO_3.out BK493.out (by decide)); have hn497_5 : ad497.block ≠ gb493 := Kd.own_blk (Kd.R_ne HO_3.out BK493.out (by decide)); replace hx497_0 := cw6 (.int .i64 ((rd_T55 l0 x9_1).f0.f0)) (.int .i64 ((rd_T55 l0 x9_1).f0.f1)) (.int .i64 ((rd_T55 l0 x9_1).f0.f2)) (.int .i64 ((rd_T55 l0 x9_1).f0.f3)) (.int .i64 ((rd_T55 l0 x9_1).f1.f0)) (.int .i64 ((rd_T55 l0 x9_1).f1.f1)) hn497_0 hx497_0; replace hx497_1 := cw6 (.int .i64 ((rd_T55 l0 x9_1).f0.f0)) (.int .i64 ((rd_T55 l0 x9_1).f0.f1)) (.int .i64 ((rd_T55 l0 x9_1).f0.f2)) (.int .i64 ((rd_T55 l0 x9_1).f0.f3)) (.int .i64 ((rd_T55 l0 x9_1).f1.f0)) (.int .i64 ((rd_T55 l0 x9_1).f1.f1)) hn497_0 hx497_1; replace hx497_2 := cw6 (.int .i64 ((rd_T55 l0 x9_1).f0.f0)) (.int .i64 ((rd_T55 l0 x9_1).f0.f1)) (.int .i64 ((rd_T55 l0 x9_1).f0.f2)) (.int .i64 ((rd_T55 l0 x9_1).f0.f3)) (.int .i64 ((rd_T55 l0 x9_1).f1.f0)) (.int .i64 ((rd_T55 l0 x9_1).f1.f1)) hn497_0 hx497_2; replace hx497_3 := cw6 (.int .i64 ((rd_T55 l0 x9_1).f0.f0)) (.int .i64 ((rd_T55 l0 x9_1).f0.f1)) (.int .i64 ((rd_T55 l0 x9_1).f0.f2)) (.int .i64 ((rd_T55 l0 x9_1).f0.f3)) (.int .i64 ((rd_T55 l0 x9_1).f1.f0)) (.int .i64 ((rd_T55 l0 x9_1).f1.f1)) hn497_0 hx497_3; (try have hy497_0 := dw6 hx497_0); (try have hy497_1 := dw6 hx497_1); (try have hy497_2 := dw6 hx497_2); (try have hy497_3 := dw6 hx497_3); clear hn497_0; clear hn497_1; clear hn497_2; clear hn497_3; clear hn497_4; clear hn497_5; replace p497 := eq_true p497; replace q497 := eq_true q497) | ((with_reducible refine gate_builtin (b := .append) (xs := #[.tmp 27, .tmp 30]) rfl ?_); (try (refine gate_guard (by rfl) ?_; dsimp only)); at_builtin; refine Kd.R_append k51 (w0 := w) w.heap.size rfl (.tmp 27) (.tmp 30) 44 51 (.agg #[(.int .i64 0), (.int .i64 0), (.int .i64 0), (.int .i64 0)]) 32 rfl Try.underlying44 info51 rfl (by decide) (by omega) (.slice (some ad497) x3_1.length co20) x3_1 (⟨(rd_T55 l0 x9_1).f0.f0, (rd_T55 l0 x9_1).f0.f1, (rd_T55 l0 x9_1).f0.f2, (rd_T55 l0 x9_1).f0.f3⟩ : S51) [.int .i64 ((rd_T55 l0 x9_1).f0.f0), .int .i64 ((rd_T55 l0 x9_1).f0.f1), .int .i64 ((rd_T55 l0 x9_1).f0.f2), .int .i64 ((rd_T55 l0 x9_1).f0.f3)] (fun _ => True) (fun _ => False) rfl (by first | (go_simp; done) | (go_simp; rfl)) ?aP (fun _ hk => hk.elim) ?aF ?aO ?aB ?aS ?aL ?_; (case aP => exact k51_mkM _ _ _ (⟨(rd_T55 l0 x9_1).f0.f0, (rd_T55 l0 x9_1).f0.f1, (rd_T55 l0 x9_1).f0.f2, (rd_T55 l0 x9_1).f0.f3⟩ : S51)); (case aB => exact (bbw1 HB GE493)); (case aF => exact (fun _ _ => trivial)); (case aO => exact (by (with_reducible repeat (first | apply Kd.R_alloc | apply Kd.R_drewN | apply Kd.R_drew)); exact Kd.R_mono (rw6 (Kd.R_types HO_3.out BK493.out (by decide))) (fun _ hk => trivial))); (case aS => exact (bsz1 HB GE493)); (case aL => have := LMc17.out; omega); intro v499 w21 ho hb hg hat; rw [← Ny498.out] at ho; have n0_ := asd (blk_grown (g := gb493) (o := .cells #[.int .i64 ((rd_T55 l0 x9_1).f0.f0), .int .i64 ((rd_T55 l0 x9_1).f0.f1), .int .i64 ((rd_T55 l0 x9_1).f0.f2), .int .i64 ((rd_T55 l0 x9_1).f0.f3), .int .i64 ((rd_T55 l0 x9_1).f1.f0), .int .i64 ((rd_T55 l0 x9_1).f1.f1)] 55 (0, 0)) (bq0 BK493) hg (Kd.R_ne HO_3.out BK493.out (by decide))); have n1_ := asd (hb); have n2_ := asd (ho); clear BK493; clear HB; clear HO_3; have BK493 := n0_; have HB := n1_; have HO500 := n2_; clear n0_ n1_ n2_; clear ho hb hg hat)))
           go_roundg k1
           case measure => have := HK1.out; omega
           case rel => exact ⟨(y498), (wrap64 (x9_1 + 1)), (by first | rfl | (simp; done) | (simp [*]; done)), H', ⟨by have := HK1.out; omega⟩, ⟨by (with_reducible repeat (first | apply Kd.R_alloc | apply Kd.R_drewN | apply Kd.R_drew)); exact HO500.out⟩, ⟨bbw1 HB GE493⟩⟩
          ·rw [if_neg c17] at H
           exact absurd H (by simp)
         ·rw [if_neg c16] at H
          have c16b0 : (!(((rd_T51 x3_1 (ji13)).f0) == ((rd_T55 l0 x9_1).f0.f0)) || (!(((rd_T51 x3_1 (ji13)).f1) == ((rd_T55 l0 x9_1).f0.f1)) || (!(((rd_T51 x3_1 (ji13)).f2) == ((rd_T55 l0 x9_1).f0.f2)) || (!(((rd_T51 x3_1 (ji13)).f3) == ((rd_T55 l0 x9_1).f0.f3)))))) = false := by simpa using c16
          clear c16
          have H' := Aside0.mk H
          clear H
          obtain ⟨p492, q492, ad492, e492, hx492_0, hx492_1, hx492_2, hx492_3, hx492_4, hx492_5⟩ := at_T55x HR0.out HB x9_1
          cases e492
          go_wp2_with (first | ((with_reducible refine gd 5 rfl ?_); (try (refine gate_guard (by rfl) ?_; dsimp only)); refine bx #[.int .i64 0, .int .i64 0, .int .i64 0, .int .i64 0, .int .i64 0, .int .i64 0] 55 ?_; intro gb493 hg w22 BK493 hb; replace HO_3 := asd (Kd.R_below (kr HO_3) hb); have GE493 := ngw0 hg HB; replace HB := bS0 HB hb; clear hb hg; obtain ⟨hcz23_0, hcz23_1, hcz23_2, hcz23_3, hcz23_4, hcz23_5, hfz23_0, hfz23_1, hfz23_2, hfz23_3, hfz23_4, hfz23_5⟩ := bz6 BK493; obtain ⟨Ao24, co24, eo24⟩ := Kd.R_slice HO_3.out; subst eo24; have p497 : 0 ≤ ((ji13) : Int) := od; have q497 : (ji13) < (x3_1.length : Int) := od; obtain ⟨ad497, e497, hx497_0, hx497_1, hx497_2, hx497_3⟩ := at_T51 (Kd.R_reads' HO_3.out).2.2 (ji13) p497 q497; cases e497; have hn497_0 : ad497.block ≠ gb493 := Kd.own_blk (Kd.R_ne HO_3.out BK493.out (by decide)); have hn497_1 : ad497.block ≠ gb493 := Kd.own_blk (Kd.R_ne HO_3.out BK493.out (by decide)); have hn497_2 : ad497.block ≠ gb493 := Kd.own_blk (Kd.R_ne HO_3.out BK493.out (by decide)); have hn497_3 : ad497.block ≠ gb493 := Kd.own_blk (Kd.R_ne HO_3.out BK493.out (by decide)); have hn497_4 : ad497.block ≠ gb493 := Kd.own_blk (Kd.R_ne HO_3.out BK493.out (by decide)); have hn497_5 : ad497.block ≠ gb493 := Kd.own_blk (Kd.R_ne HO_3.out BK493.out (by decide)); replace hx497_0 := cw6 (.int .i64 ((rd_T55 l0 x9_1).f0.f0)) (.int .i64 ((rd_T55 l0 x9_1).f0.f1)) (.int .i64 ((rd_T55 l0 x9_1).f0.f2)) (.int .i64 ((rd_T55 l0 x9_1).f0.f3)) (.int .i64 ((rd_T55 l0 x9_1).f1.f0)) (.int .i64 ((rd_T55 l0 x9_1).f1.f1)) hn497_0 hx497_0; replace hx497_1 := cw6 (.int .i64 ((rd_T55 l0 x9_1).f0.f0)) (.int .i64 ((rd_T55 l0 x9_1).f0.f1)) (.int .i64 ((rd_T55 l0 x9_1).f0.f2)) (.int .i64 ((rd_T55 l0 x9_1).f0.f3)) (.int .i64 ((rd_T55 l0 x9_1).f1.f0)) (.int .i64 ((rd_T55 l0 x9_1).f1.f1)) hn497_0 hx497_1; replace hx497_2 := cw6 (.int .i64 ((rd_T55 l0 x9_1).f0.f0)) (.int .i64 ((rd_T55 l0 x9_1).f0.f1)) (.int .i64 ((rd_T55 l0 x9_1).f0.f2)) (.int .i64 ((rd_T55 l0 x9_1).f0.f3)) (.int .i64 ((rd_T55 l0 x9_1).f1.f0)) (.int .i64 ((rd_T55 l0 x9_1).f1.f1)) hn497_0 hx497_2; replace hx497_3 := cw6 (.int .i64 ((rd_T55 l0 x9_1).f0.f0)) (.int .i64 ((rd_T55 l0 x9_1).f0.f1)) (.int .i64 ((rd_T55 l0 x9_1).f0.f2)) (.int .i64 ((rd_T55 l0 x9_1).f0.f3)) (.int .i64 ((rd_T55 l0 x9_1).f1.f0)) (.int .i64 ((rd_T55 l0 x9_1).f1.f1)) hn497_0 hx497_3; (try have hy497_0 := dw6 hx497_0); (try have hy497_1 := dw6 hx497_1); (try have hy497_2 := dw6 hx497_2); (try have hy497_3 := dw6 hx497_3); clear hn497_0; clear hn497_1; clear hn497_2; clear hn497_3; clear hn497_4; clear hn497_5; replace p497 := eq_true p497; replace q497 := eq_true q497))
          repeat (go_quiet (first | ((with_reducible refine gd 5 rfl ?_); (try (refine gate_guard (by rfl) ?_; dsimp only)); refine bx #[.int .i64 0, .int .i64 0, .int .i64 0, .int .i64 0, .int .i64 0, .int .i64 0] 55 ?_; intro gb493 hg w22 BK493 hb; replace HO_3 := asd (Kd.R_below (kr HO_3) hb); have GE493 := ngw0 hg HB; replace HB := bS0 HB hb; clear hb hg; obtain ⟨hcz23_0, hcz23_1, hcz23_2, hcz23_3, hcz23_4, hcz23_5, hfz23_0, hfz23_1, hfz23_2, hfz23_3, hfz23_4, hfz23_5⟩ := bz6 BK493; obtain ⟨Ao24, co24, eo24⟩ := Kd.R_slice HO_3.out; subst eo24; have p497 : 0 ≤ ((ji13) : Int) := od; have q497 : (ji13) < (x3_1.length : Int) := od; obtain ⟨ad497, e497, hx497_0, hx497_1, hx497_2, hx497_3⟩ := at_T51 (Kd.R_reads' HO_3.out).2.2 (ji13) p497 q497; cases e497; have hn497_0 : ad497.block ≠ gb493 := Kd.own_blk (Kd.R_ne HO_3.out BK493.out (by decide)); have hn497_1 : ad497.block ≠ gb493 := Kd.own_blk (Kd.R_ne HO_3.out BK493.out (by decide)); have hn497_2 : ad497.block ≠ gb493 := Kd.own_blk (Kd.R_ne HO_3.out BK493.out (by decide)); have hn497_3 : ad497.block ≠ gb493 := Kd.own_blk (Kd.R_ne HO_3.out BK493.out (by decide)); have hn497_4 : ad497.block ≠ gb493 := Kd.own_blk (Kd.R_ne HO_3.out BK493.out (by decide)); have hn497_5 : ad497.block ≠ gb493 := Kd.own_blk (Kd.R_ne HO_3.out BK493.out (by decide)); replace hx497_0 := cw6 (.int .i64 ((rd_T55 l0 x9_1).f0.f0)) (.int .i64 ((rd_T55 l0 x9_1).f0.f1)) (.int .i64 ((rd_T55 l0 x9_1).f0.f2)) (.int .i64 ((rd_T55 l0 x9_1).f0.f3)) (.int .i64 ((rd_T55 l0 x9_1).f1.f0)) (.int .i64 ((rd_T55 l0 x9_1).f1.f1)) hn497_0 hx497_0; replace hx497_1 := cw6 (.int .i64 ((rd_T55 l0 x9_1).f0.f0)) (.int .i64 ((rd_T55 l0 x9_1).f0.f1)) (.int .i64 ((rd_T55 l0 x9_1).f0.f2)) (.int .i64 ((rd_T55 l0 x9_1).f0.f3)) (.int .i64 ((rd_T55 l0 x9_1).f1.f0)) (.int .i64 ((rd_T55 l0 x9_1).f1.f1)) hn497_0 hx497_1; replace hx497_2 := cw6 (.int .i64 ((rd_T55 l0 x9_1).f0.f0)) (.int .i64 ((rd_T55 l0 x9_1).f0.f1)) (.int .i64 ((rd_T55 l0 x9_1).f0.f2)) (.int .i64 ((rd_T55 l0 x9_1).f0.f3)) (.int .i64 ((rd_T55 l0 x9_1).f1.f0)) (.int .i64 ((rd_T55 l0 x9_1).f1.f1)) hn497_0 hx497_2; replace hx497_3 := cw6 (.int .i64 ((rd_T55 l0 x9_1).f0.f0)) (.int .i64 ((rd_T55 l0 x9_1).f0.f1)) (.int .i64 ((rd_T55 l0 x9_1).f0.f2)) (.int .i64 ((rd_T55 l0 x9_1).f0.f3)) (.int .i64 ((rd_T55 l0 x9_1).f1.f0)) (.int .i64 ((rd_T55 l0 x9_1).f1.f1)) hn497_0 hx497_3; (try have hy497_0 := dw6 hx497_0); (try have hy497_1 := dw6 hx497_1); (try have hy497_2 := dw6 hx497_2); (try have hy497_3 := dw6 hx497_3); clear hn497_0; clear hn497_1; clear hn497_2; clear hn497_3; clear hn497_4; clear hn497_5; replace p497 := eq_true p497; replace q497 := eq_true q497)); try go_wp2_with (first | ((with_reducible refine gd 5 rfl ?_); (try (refine gate_guard (by rfl) ?_; dsimp only)); refine bx #[.int .i64 0, .int .i64 0, .int .i64 0, .int .i64 0, .int .i64 0, .int .i64 0] 55 ?_; intro gb493 hg w22 BK493 hb; replace HO_3 := asd (Kd.R_below (kr HO_3) hb); have GE493 := ngw0 hg HB; replace HB := bS0 HB hb; clear hb hg; obtain ⟨hcz23_0, hcz23_1, hcz23_2, hcz23_3, hcz23_4, hcz23_5, hfz23_0, hfz23_1, hfz23_2, hfz23_3, hfz23_4, hfz23_5⟩ := bz6 BK493; obtain ⟨Ao24, co24, eo24⟩ := Kd.R_slice HO_3.out; subst eo24; have p497 : 0 ≤ ((ji13) : Int) := od; have q497 : (ji13) < (x3_1.length : Int) := od; obtain ⟨ad497, e497, hx497_0, hx497_1, hx497_2, hx497_3⟩ := at_T51 (Kd.R_reads' HO_3.out).2.2 (ji13) p497 q497; cases e497; have hn497_0 : ad497.block ≠ gb493 := Kd.own_blk (Kd.R_ne HO_3.out BK493.out (by decide)); have hn497_1 : ad497.block ≠ gb493 := Kd.own_blk (Kd.R_ne HO_3.out BK493.out (by decide)); have hn497_2 : ad497.block ≠ gb493 := Kd.own_blk (Kd.R_ne HO_3.out BK493.out (by decide)); have hn497_3 : ad497.block ≠ gb493 := Kd.own_blk (Kd.R_ne HO_3.out BK493.out (by decide)); have hn497_4 : ad497.block ≠ gb493 := Kd.own_blk (Kd.R_ne HO_3.out BK493.out (by decide)); have hn497_5 : ad497.block ≠ gb493 := Kd.own_blk (Kd.R_ne HO_3.out BK493.out (by decide)); replace hx497_0 := cw6 (.int .i64 ((rd_T55 l0 x9_1).f0.f0)) (.int .i64 ((rd_T55 l0 x9_1).f0.f1)) (.int .i64 ((rd_T55 l0 x9_1).f0.f2)) (.int .i64 ((rd_T55 l0 x9_1).f0.f3)) (.int .i64 ((rd_T55 l0 x9_1).f1.f0)) (.int .i64 ((rd_T55 l0 x9_1).f1.f1)) hn497_0 hx497_0; replace hx497_1 := cw6 (.int .i64 ((rd_T55 l0 x9_1).f0.f0)) (.int .i64 ((rd_T55 l0 x9_1).f0.f1)) (.int .i64 ((rd_T55 l0 x9_1).f0.f2)) (.int .i64 ((rd_T55 l0 x9_1).f0.f3)) (.int .i64 ((rd_T55 l0 x9_1).f1.f0)) (.int .i64 ((rd_T55 l0 x9_1).f1.f1)) hn497_0 hx497_1; replace hx497_2 := cw6 (.int .i64 ((rd_T55 l0 x9_1).f0.f0)) (.int .i64 ((rd_T55 l0 x9_1).f0.f1)) (.int .i64 ((rd_T55 l0 x9_1).f0.f2)) (.int .i64 ((rd_T55 l0 x9_1).f0.f3)) (.int .i64 ((rd_T55 l0 x9_1).f1.f0)) (.int .i64 ((rd_T55 l0 x9_1).f1.f1)) hn497_0 hx497_2; replace hx497_3 := cw6 (.int .i64 ((rd_T55 l0 x9_1).f0.f0)) (.int .i64 ((rd_T55 l0 x9_1).f0.f1)) (.int .i64 ((rd_T55 l0 x9_1).f0.f2)) (.int .i64 ((rd_T55 l0 x9_1).f0.f3)) (.int .i64 ((rd_T55 l0 x9_1).f1.f0)) (.int .i64 ((rd_T55 l0 x9_1).f1.f1)) hn497_0 hx497_3; (try have hy497_0 := dw6 hx497_0); (try have hy497_1 := dw6 hx497_1); (try have hy497_2 := dw6 hx497_2); (try have hy497_3 := dw6 hx497_3); clear hn497_0; clear hn497_1; clear hn497_2; clear hn497_3; clear hn497_4; clear hn497_5; replace p497 := eq_true p497; replace q497 := eq_true q497)))
          go_roundg k1
          case measure => have := HK1.out; omega
          case rel => exact ⟨(x3_1), (wrap64 (x9_1 + 1)), (by first | rfl | (simp; done) | (simp [*]; done)), H', ⟨by have := HK1.out; omega⟩, ⟨by (with_reducible repeat (first | apply Kd.R_alloc | apply Kd.R_drewN | apply Kd.R_drew)); exact Kd.R_mono (rw6 (Kd.R_types HO_3.out BK493.out (by decide))) (fun _ hk => trivial)⟩, ⟨bbw1 HB GE493⟩⟩
        ·rw [if_neg c15] at H
         exact absurd H (by simp)
       ·rw [if_neg c14] at H
        exact absurd H (by simp)
     ·rw [if_neg c6] at H
      exact absurd H (by simp)
    ·rw [if_neg c5] at H
     exact absurd H (by simp)
   ·rw [if_neg c4] at H
    have c4b0 : decide (x9_1 < (l0.length : Int)) = false := decide_eq_false c4
    clear c4
    obtain rfl := Option.some.inj H
    go_wp2
    repeat (go_quiet (fail); try go_wp2)
    go_ret
    exact ⟨_, by first | rfl | (simp [errW_none, errW_some] <;> rfl) | (simp [*, errW_none, errW_some] <;> rfl), by (with_reducible repeat (first | apply Kd.R_alloc | apply Kd.R_drewN | apply Kd.R_drew)); exact HO_3.out, bbw0 HB⟩

/-! ### impl_PointPart: function 25 -/
def impl_PointPart.f (k : Nat) (a0 : Int) (a1_0 : Int) (a1_1 : Int) (a1_2 : Int) (l2 : List (S55)) : Option ((List (S51)) × Int) := (impl_groupCode.f k a0 a1_0 a1_1 a1_2 (([l2] : List (List (S55))))).bind fun t505 => (if t505 = 0 then ((impl_pointPart.f k l2).bind fun t506 => (some (t506, 0))) else (some (([] : List (S51)), t505)))
set_option maxHeartbeats 8000000 in
set_option maxRecDepth 100000 in
theorem impl_PointPart.calls (k : Nat) (a0 : Int) (a1_0 : Int) (a1_1 : Int) (a1_2 : Int) (P2_ : Nat → Prop) (A2 : Option Addr) (c2 : Nat) (l2 : List (S55)) (r1 : List (S51)) (r2 : Int) (w : World) (hs2 : Kd.V k55 55 w w.heap.size (fun k_ => P2_ k_) (.slice A2 l2.length c2) l2) (h : impl_PointPart.f k a0 a1_0 a1_1 a1_2 l2 = some (r1, r2)) :
  Calls Try.prog 25 #[.int .i64 a0, .agg #[.int .i64 a1_0, .int .i64 a1_1, .int .i64 a1_2], .slice A2 l2.length c2] w fun e w' => ∃ v0_ : Value, e = .returned (.tuple #[v0_, .int .i64 r2]) ∧ Kd.R k51 51 w' w.heap.size (fun k_ => (w.heap.size ≤ k_)) v0_ r1 ∧ Below w.heap.size w w' := by
 have hu27 := Try.underlying27
 have HO2 := asd (show Kd.V k55 55 w w.heap.size (fun k_ => (P2_ k_ ∨ w.heap.size ≤ k_)) (.slice A2 l2.length c2) l2 from Kd.V_mono hs2 (fun k_ hk => .inl hk))
 have HB := asd (Below.refl w.heap.size w)
 have H : ((impl_groupCode.f k a0 a1_0 a1_1 a1_2 (([l2] : List (List (S55))))).bind fun t505 => (if t505 = 0 then ((impl_pointPart.f k l2).bind fun t506 => (some (t506, 0))) else (some (([] : List (S51)), t505)))) = some (r1, r2) := h
 clear h
 obtain ⟨y502, hy502⟩ : ∃ y_ : List (List (S55)), y_ = (([l2] : List (List (S55)))) := ⟨_, rfl⟩
 replace H : ((impl_groupCode.f k a0 a1_0 a1_1 a1_2 y502).bind fun t505 => (if t505 = 0 then ((impl_pointPart.f k l2).bind fun t506 => (some (t506, 0))) else (some (([] : List (S51)), t505)))) = some (r1, r2) := by first | (rw [hy502]; with_reducible exact H) | (have H2_ := (Option.bind_some _ _).symm.trans H; rw [hy502]; with_reducible exact H2_) | (have H2_ := (Option.bind_some _ _).symm.trans H; with_reducible exact H2_) | with_reducible exact H | (rw [hy502]; exact H) | exact H
 have Ny502 := Aside0.mk hy502
 clear hy502
 obtain ⟨t505, A4, H⟩ := ob H
 replace H : (if t505 = 0 then ((impl_pointPart.f k l2).bind fun t506 => (some (t506, 0))) else (some (([] : List (S51)), t505))) = some (r1, r2) := H
 by_cases c5 : t505 = 0
 ·rw [if_pos c5] at H
  have c5b0 : (t505 == 0) = true := beq_iff_eq.mpr c5
  have c5b1 : (t505 != 0) = false := bne_eq_false_iff_eq.mpr c5
  clear c5
  obtain ⟨t506, A6, H⟩ := ob H
  replace H : (some (t506, 0)) = some (r1, r2) := H
  simp only [Option.some.injEq, Prod.mk.injEq] at H
  obtain ⟨rfl, rfl⟩ := H
  go_enter Try.func25, Try.ntmps25
  go_wp2_with (first | ((with_reducible refine gd 4 rfl ?_); refine bx #[.int .i64 a1_0, .int .i64 a1_1, .int .i64 a1_2] 27 ?_; intro gb501 hg w7 BK501 hb; replace HO2 := asd (Kd.V_below (Kd.V_elderB (by (with_reducible repeat (first | apply Kd.V_alloc | apply Kd.V_drewN | apply Kd.V_drew)); exact HO2.out) gb501 (Nat.le_of_eq hg.symm)) hb); have GE501 := ngw0 hg HB; replace HB := bS0 HB hb; clear hb hg; obtain ⟨hcz8_0, hcz8_1, hcz8_2, hfz8_0, hfz8_1, hfz8_2⟩ := bz3 BK501) | ((with_reducible refine gd 12 rfl ?_); refine Kd.N_lit (Kd.slice 55 k55) _ 29 ?hg (N' := 12) ?hd (xs := ([l2] : List (List (S55)))) (inner := [.slice A2 l2.length c2]) (ok := (fun k_ => (P2_ k_ ∨ w.heap.size ≤ k_) ∧ k_ ≠ gb501)) (okp := (fun k_ => (P2_ k_ ∨ w.heap.size ≤ k_) ∧ k_ ≠ gb501)) ?hr ?hp (fun _ hk => hk) ((show ∀ k_, w7.heap.size ≤ k_ → (fun k_ => (P2_ k_ ∨ w.heap.size ≤ k_) ∧ k_ ≠ gb501) k_ from fun k_ hk => ⟨(.inr (Nat.le_trans (bsz1 HB GE501) hk)), Kd.freshB (g := gb501) (o := .cells #[.int .i64 a1_0, .int .i64 a1_1, .int .i64 a1_2] 27 (0, 0)) (bkp BK501) k_ hk⟩) _ (Nat.le_refl _)) (Below.refl _ _) (Nat.le_refl _) (by simp) ?_; (case hd => rfl); (case hg => rfl); (case hr => first | (go_simp; done) | (go_simp; rfl)); (case hp => exact (Reps.one (show Kd.FK (Kd.slice 55 k55) _ _ l2 [.slice A2 l2.length c2] from (Kd.FK_slice_mk (Kd.V_reads' (Kd.V_mono (ok' := (fun k_ => (P2_ k_ ∨ w.heap.size ≤ k_) ∧ k_ ≠ gb501)) (HO2.out) (fun k_ hk => ⟨hk.1, hk.2⟩))).2.1 (Kd.V_F (Kd.V_mono (ok' := (fun k_ => (P2_ k_ ∨ w.heap.size ≤ k_) ∧ k_ ≠ gb501)) (HO2.out) (fun k_ hk => ⟨hk.1, hk.2⟩))))) (Reps.none _ _))); intro v503 w9 ho10 hb hg_ hnew_; clear hg_ hnew_; (first | rw [← Ny502.out] at ho10 | (simp only [Int.reduceToNat] at ho10; rw [← Ny502.out] at ho10)); replace HO2 := asd (Kd.V_elder' (by (with_reducible repeat (first | apply Kd.V_alloc | apply Kd.V_drewN | apply Kd.V_drew)); exact HO2.out) (Kd.N_base ho10) hb); have HO504 := asd (Kd.N_lower ho10 (bsz1 HB GE501)); replace BK501 := bB BK501 hb; replace HB := bS1 HB GE501 hb; clear hb ho10; obtain ⟨Ao11, co11, eo11⟩ := Kd.N_slice HO504.out; subst eo11) | ((with_reducible refine gate_callee (f := 32) rfl ?_); refine gl 13 Try.func32 #[.int .i64 a0, .agg #[.int .i64 a1_0, .int .i64 a1_1, .int .i64 a1_2], .slice Ao11 y502.length co11] ?_; (with_reducible refine (impl_groupCode.calls _ _ _ _ _ _ _ _ _ _ ?side1 ?side2 A4.out).mono ?_); (case side1 => exact ks (Kd.N_reads' HO504.out).2.2); (case side2 => exact (Kd.N_reads' HO504.out).2.1); rintro e w12 ⟨rfl, hb⟩; refine ⟨_, rfl, ?_⟩; replace HO2 := asd (Kd.V_below (by (with_reducible repeat (first | apply Kd.V_alloc | apply Kd.V_drewN | apply Kd.V_drew)); exact HO2.out) hb); replace HO504 := asd (Kd.N_below (by (with_reducible repeat (first | apply Kd.N_alloc | apply Kd.N_drewN | apply Kd.N_drew)); exact HO504.out) hb); replace BK501 := bB BK501 hb; replace HB := bS1 HB GE501 hb; (try clear hb)) | ((with_reducible refine gate_callee (f := 54) rfl ?_); refine gl 18 Try.func54 #[.slice A2 l2.length c2] ?_; (with_reducible refine (impl_pointPart.calls _ _ _ _ _ _ ?side1 ?side2 A6.out).mono ?_); (case side1 => exact ks (Kd.V_reads' HO2.out).2.2); (case side2 => exact (Kd.V_reads' HO2.out).2.1); rintro e w13 ⟨v507, rfl, ho0, hb⟩; refine ⟨_, rfl, ?_⟩; replace HO2 := asd (Kd.V_elder' (by (with_reducible repeat (first | apply Kd.V_alloc | apply Kd.V_drewN | apply Kd.V_drew)); exact HO2.out) (Kd.R_base ho0) hb); replace HO504 := asd (Kd.N_elder' (by (with_reducible repeat (first | apply Kd.N_alloc | apply Kd.N_drewN | apply Kd.N_drew)); exact HO504.out) (Kd.R_base ho0) hb); have HO508 := asd (Kd.R_lower (Kd.R_newM (M := fun k_ => (w.heap.size ≤ k_)) ho0 (bsz1 HB GE501) (fun k_ h_ => h_)) (bsz1 HB GE501)); replace BK501 := bB BK501 hb; replace HB := bS1 HB GE501 hb; (try clear hb); (try clear hb2); (try clear hk); (try clear hi); (try clear ho0)))
  go_ret2
  exact ⟨_, by first | rfl | (simp [errW_none, errW_some] <;> rfl) | (simp [*, errW_none, errW_some] <;> rfl), by (with_reducible repeat (first | apply Kd.R_alloc | apply Kd.R_drewN | apply Kd.R_drew)); exact Kd.R_mono HO508.out (fun _ hk => hk.1), bbw1 HB GE501⟩
 ·rw [if_neg c5] at H
  have c5b0 : (t505 == 0) = false := beq_eq_false_iff_ne.mpr c5
  have c5b1 : (t505 != 0) = true := bne_iff_ne.mpr c5
  simp only [Option.some.injEq, Prod.mk.injEq] at H
  obtain ⟨rfl, rfl⟩ := H
  go_enter Try.func25, Try.ntmps25
  go_wp2_with (first | ((with_reducible refine gd 4 rfl ?_); refine bx #[.int .i64 a1_0, .int .i64 a1_1, .int .i64 a1_2] 27 ?_; intro gb501 hg w14 BK501 hb; replace HO2 := asd (Kd.V_below (Kd.V_elderB (by (with_reducible repeat (first | apply Kd.V_alloc | apply Kd.V_drewN | apply Kd.V_drew)); exact HO2.out) gb501 (Nat.le_of_eq hg.symm)) hb); have GE501 := ngw0 hg HB; replace HB := bS0 HB hb; clear hb hg; obtain ⟨hcz15_0, hcz15_1, hcz15_2, hfz15_0, hfz15_1, hfz15_2⟩ := bz3 BK501) | ((with_reducible refine gd 12 rfl ?_); refine Kd.N_lit (Kd.slice 55 k55) _ 29 ?hg (N' := 12) ?hd (xs := ([l2] : List (List (S55)))) (inner := [.slice A2 l2.length c2]) (ok := (fun k_ => (P2_ k_ ∨ w.heap.size ≤ k_) ∧ k_ ≠ gb501)) (okp := (fun k_ => (P2_ k_ ∨ w.heap.size ≤ k_) ∧ k_ ≠ gb501)) ?hr ?hp (fun _ hk => hk) ((show ∀ k_, w14.heap.size ≤ k_ → (fun k_ => (P2_ k_ ∨ w.heap.size ≤ k_) ∧ k_ ≠ gb501) k_ from fun k_ hk => ⟨(.inr (Nat.le_trans (bsz1 HB GE501) hk)), Kd.freshB (g := gb501) (o := .cells #[.int .i64 a1_0, .int .i64 a1_1, .int .i64 a1_2] 27 (0, 0)) (bkp BK501) k_ hk⟩) _ (Nat.le_refl _)) (Below.refl _ _) (Nat.le_refl _) (by simp) ?_; (case hd => rfl); (case hg => rfl); (case hr => first | (go_simp; done) | (go_simp; rfl)); (case hp => exact (Reps.one (show Kd.FK (Kd.slice 55 k55) _ _ l2 [.slice A2 l2.length c2] from (Kd.FK_slice_mk (Kd.V_reads' (Kd.V_mono (ok' := (fun k_ => (P2_ k_ ∨ w.heap.size ≤ k_) ∧ k_ ≠ gb501)) (HO2.out) (fun k_ hk => ⟨hk.1, hk.2⟩))).2.1 (Kd.V_F (Kd.V_mono (ok' := (fun k_ => (P2_ k_ ∨ w.heap.size ≤ k_) ∧ k_ ≠ gb501)) (HO2.out) (fun k_ hk => ⟨hk.1, hk.2⟩))))) (Reps.none _ _))); intro v503 w16 ho17 hb hg_ hnew_; clear hg_ hnew_; (first | rw [← Ny502.out] at ho17 | (simp only [Int.reduceToNat] at ho17; rw [← Ny502.out] at ho17)); replace HO2 := asd (Kd.V_elder' (by (with_reducible repeat (first | apply Kd.V_alloc | apply Kd.V_drewN | apply Kd.V_drew)); exact HO2.out) (Kd.N_base ho17) hb); have HO504 := asd (Kd.N_lower ho17 (bsz1 HB GE501)); replace BK501 := bB BK501 hb; replace HB := bS1 HB GE501 hb; clear hb ho17; obtain ⟨Ao18, co18, eo18⟩ := Kd.N_slice HO504.out; subst eo18) | ((with_reducible refine gate_callee (f := 32) rfl ?_); refine gl 13 Try.func32 #[.int .i64 a0, .agg #[.int .i64 a1_0, .int .i64 a1_1, .int .i64 a1_2], .slice Ao18 y502.length co18] ?_; (with_reducible refine (impl_groupCode.calls _ _ _ _ _ _ _ _ _ _ ?side1 ?side2 A4.out).mono ?_); (case side1 => exact ks (Kd.N_reads' HO504.out).2.2); (case side2 => exact (Kd.N_reads' HO504.out).2.1); rintro e w19 ⟨rfl, hb⟩; refine ⟨_, rfl, ?_⟩; replace HO2 := asd (Kd.V_below (by (with_reducible repeat (first | apply Kd.V_alloc | apply Kd.V_drewN | apply Kd.V_drew)); exact HO2.out) hb); replace HO504 := asd (Kd.N_below (by (with_reducible repeat (first | apply Kd.N_alloc | apply Kd.N_drewN | apply Kd.N_drew)); exact HO504.out) hb); replace BK501 := bB BK501 hb; replace HB := bS1 HB GE501 hb; (try clear hb)))
  go_ret2
  exact ⟨_, by first | rfl | (simp [errW_none, errW_some] <;> rfl) | (simp [*, errW_none, errW_some] <;> rfl), by first | exact Kd.R_nil _ _ _ _ _ | exact Kd.N_nil _ _ _ _ _ | exact Kd.V_nil _ _ _ _ _ | exact Kd.Q_nil _ _ _ _ _ | exact Kd.S_nil _ _ _ _ _, bbw1 HB GE501⟩

/-! ### laws_eqMatS: function 26 -/
def laws_eqMatS.l0 : Nat → List (S51) → List (S51) → Int → Option (Bool)
 | 0, _, _, _ => none
 | k + 1, x0, x1, x5 => if x5 < (x0.length : Int) then (if 0 ≤ x5 then (if x5 < (x1.length : Int) then ((laws_eqMat.f ((rd_T51 x0 x5).f0) ((rd_T51 x0 x5).f1) ((rd_T51 x0 x5).f2) ((rd_T51 x0 x5).f3) ((rd_T51 x1 x5).f0) ((rd_T51 x1 x5).f1) ((rd_T51 x1 x5).f2) ((rd_T51 x1 x5).f3)).bind fun t511 => (if t511 = true then (laws_eqMatS.l0 k x0 x1 (wrap64 (x5 + 1))) else (some false))) else (none)) else (none)) else (some true)
def laws_eqMatS.f (k : Nat) (l0 : List (S51)) (l1 : List (S51)) : Option (Bool) := if (l0.length : Int) = (l1.length : Int) then (laws_eqMatS.l0 k l0 l1 0) else (some false)
def laws_eqMatS.T6 : Bool × List (List Nat × List Nat) := (true, [([], []), ([], []), ([0, 1], [0, 1]), ([2], [2]), ([], []), ([], []), ([4, 5], [4, 5]), ([6], [6]), ([3, 7], [3, 7]), ([8], [8])])
def laws_eqMatS.B6 : List Nat := [0, 0, 3, 7, 0, 0, 48, 112, 255, 511]
theorem laws_eqMatS.tab6 : rtab .any (opsOf Try.f26 6) = laws_eqMatS.T6 := by kernel_rfl
theorem laws_eqMatS.bits6 : waitsOk laws_eqMatS.T6.2 laws_eqMatS.B6 = true := by kernel_rfl
set_option maxHeartbeats 8000000 in
set_option maxRecDepth 100000 in
theorem laws_eqMatS.calls (k : Nat) (A0 : Option Addr) (c0 : Nat) (l0 : List (S51)) (A1 : Option Addr) (c1 : Nat) (l1 : List (S51)) (r : Bool) (w : World) (hr0 : Kd.C k51 w A0 l0.length l0) (hc0 : l0.length ≤ c0) (hr1 : Kd.C k51 w A1 l1.length l1) (hc1 : l1.length ≤ c1) (h : laws_eqMatS.f k l0 l1 = some r) :
  Calls Try.prog 26 #[.slice A0 l0.length c0, .slice A1 l1.length c1] w fun e w' => e = .returned (.bool r) ∧ Below w.heap.size w w' := by
 have hu51 := Try.underlying51
 have HR0 := Aside0.mk hr0
 have HC0 := Aside0.mk hc0
 clear hr0 hc0
 have HR1 := Aside0.mk hr1
 have HC1 := Aside0.mk hc1
 clear hr1 hc1
 have HB := asd (Below.refl w.heap.size w)
 have H : (if (l0.length : Int) = (l1.length : Int) then (laws_eqMatS.l0 k l0 l1 0) else (some false)) = some r := h
 clear h
 by_cases c3 : (l0.length : Int) = (l1.length : Int)
 ·rw [if_pos c3] at H
  have c3b0 : ((l0.length : Int) == (l1.length : Int)) = true := beq_iff_eq.mpr c3
  have c3b1 : ((l0.length : Int) != (l1.length : Int)) = false := bne_eq_false_iff_eq.mpr c3
  have c3b2 : (l0.length == l1.length) = true := by first | simpa using c3 | (simp at c3 ⊢; omega)
  clear c3
  have H' := Aside0.mk H
  clear H
  go_enter Try.func26, Try.ntmps26
  go_wp2
  go_loopg [5] k (fun kq v5 w' => ∃ (x5_1 : Int), v5 = .int .i64 x5_1 ∧ Aside0 (laws_eqMatS.l0 kq l0 l1 x5_1 = some r) ∧ Aside0 (kq ≤ k) ∧ Aside0 (Below w.heap.size w w'))
  case atStart => exact ⟨(0), (by first | rfl | (simp; done) | (simp [*]; done)), H', ⟨Nat.le_refl _⟩, ⟨bbw0 HB⟩⟩
  case round =>
   clear H'
   try clear c1
   try clear c2
   try clear p2
   try clear c3
   try clear c3b0
   try clear c3b1
   try clear c3b2
   obtain ⟨x5_1, rfl, HA, HK1, HB⟩ := hrel
   cases gk with
   | zero => exact absurd HA.out (by simp [laws_eqMatS.l0])
   | succ k1 =>
    have H := HA.out
    clear HA
    simp only [laws_eqMatS.l0] at H
    by_cases c4 : x5_1 < (l0.length : Int)
    ·rw [if_pos c4] at H
     have c4b0 : decide (x5_1 < (l0.length : Int)) = true := decide_eq_true c4
     clear c4
     by_cases c5 : 0 ≤ x5_1
     ·rw [if_pos c5] at H
      have c5b0 : decide (0 ≤ x5_1) = true := decide_eq_true c5
      clear c5
      by_cases c6 : x5_1 < (l1.length : Int)
      ·rw [if_pos c6] at H
       have c6b0 : decide (x5_1 < (l1.length : Int)) = true := decide_eq_true c6
       clear c6
       obtain ⟨t511, A7, H⟩ := ob H
       replace H : (if t511 = true then (laws_eqMatS.l0 k1 l0 l1 (wrap64 (x5_1 + 1))) else (some false)) = some r := H
       by_cases c8 : t511 = true
       ·subst c8
        have H1 : (laws_eqMatS.l0 k1 l0 l1 (wrap64 (x5_1 + 1))) = some r := by rw [if_pos rfl] at H; first | done | exact H
        clear H
        have H := H1
        clear H1
        have H' := Aside0.mk H
        clear H
        try go_wp2
        replace HB := asd (below_drew1 HB.out)
        obtain ⟨p509, q509, ad509, e509, hw509_0, hw509_1, hw509_2, hw509_3, hx509_0, hx509_1, hx509_2, hx509_3⟩ := at_T51w HR0.out HB x5_1
        cases e509
        obtain ⟨p510, q510, ad510, e510, hw510_0, hw510_1, hw510_2, hw510_3, hx510_0, hx510_1, hx510_2, hx510_3⟩ := at_T51w HR1.out HB x5_1
        cases e510
        refine start_ (n := 10) (S := fun w' => w'.cell? (ad509.add ((x5_1).toNat * 4)) = some (.int .i64 ((rd_T51 l0 x5_1).f0)) ∧ w'.cell? ⟨(ad509.add ((x5_1).toNat * 4)).block, (ad509.add ((x5_1).toNat * 4)).off + 1, none⟩ = some (.int .i64 ((rd_T51 l0 x5_1).f1)) ∧ w'.cell? ⟨(ad509.add ((x5_1).toNat * 4)).block, (ad509.add ((x5_1).toNat * 4)).off + 2, none⟩ = some (.int .i64 ((rd_T51 l0 x5_1).f2)) ∧ w'.cell? ⟨(ad509.add ((x5_1).toNat * 4)).block, (ad509.add ((x5_1).toNat * 4)).off + 3, none⟩ = some (.int .i64 ((rd_T51 l0 x5_1).f3)) ∧ w'.cell? (ad510.add ((x5_1).toNat * 4)) = some (.int .i64 ((rd_T51 l1 x5_1).f0)) ∧ w'.cell? ⟨(ad510.add ((x5_1).toNat * 4)).block, (ad510.add ((x5_1).toNat * 4)).off + 1, none⟩ = some (.int .i64 ((rd_T51 l1 x5_1).f1)) ∧ w'.cell? ⟨(ad510.add ((x5_1).toNat * 4)).block, (ad510.add ((x5_1).toNat * 4)).off + 2, none⟩ = some (.int .i64 ((rd_T51 l1 x5_1).f2)) ∧ w'.cell? ⟨(ad510.add ((x5_1).toNat * 4)).block, (ad510.add ((x5_1).toNat * 4)).off + 3, none⟩ = some (.int .i64 ((rd_T51 l1 x5_1).f3))) (ds := []) (bt 10 0) (by kernel_rfl) rfl rfl ⟨(xb HB hw509_0), (xb HB hw509_1), (xb HB hw509_2), (xb HB hw509_3), (xb HB hw510_0), (xb HB hw510_1), (xb HB hw510_2), (xb HB hw510_3)⟩ (fun hHeld => ?_); refine with_tabW laws_eqMatS.tab6 laws_eqMatS.bits6 (fun HT_ HW_ => ?_)
        generalize wr.drew = w9 at HB hx509_0 hx509_1 hx509_2 hx509_3 hx510_0 hx510_1 hx510_2 hx510_3 hHeld ⊢
        refine pu 0 (some 17) (bt 10 1) HT_ ?_
        refine pu 1 (some 18) (bt 10 2) HT_ ?_
        refine pu 2 (some 19) (bt 10 3) HT_ ?_
        refine pu 4 (some 21) (bs 10 23) HT_ ?_
        refine pu 5 (some 22) (bs 10 55) HT_ ?_
        refine pu 6 (some 23) (bs 10 119) HT_ ?_
        refine ta 3 (some 20) (bt 10 7) HT_ HW_ hHeld ?_
        refine ta 7 (some 24) (bt 10 8) HT_ HW_ hHeld ?_
        refine ro 8 (some 25) (bt 10 9) HT_ (fun K hK => ?_)
        refine gs Try.func55 #[.agg #[.int .i64 ((rd_T51 l0 x5_1).f0), .int .i64 ((rd_T51 l0 x5_1).f1), .int .i64 ((rd_T51 l0 x5_1).f2), .int .i64 ((rd_T51 l0 x5_1).f3)], .agg #[.int .i64 ((rd_T51 l1 x5_1).f0), .int .i64 ((rd_T51 l1 x5_1).f1), .int .i64 ((rd_T51 l1 x5_1).f2), .int .i64 ((rd_T51 l1 x5_1).f3)]] ?_
        with_reducible refine (laws_eqMat.calls _ _ _ _ _ _ _ _ _ _ A7.out).mono ?_
        rintro e w10 ⟨rfl, hb⟩
        refine ⟨_, rfl, ?_⟩
        replace HB := bS0 HB hb
        (try clear hb)
        (try clear hb2)
        (try clear hk)
        (try clear hi)
        refine hK.out _ _ ⟨(xb HB hw509_0), (xb HB hw509_1), (xb HB hw509_2), (xb HB hw509_3), (xb HB hw510_0), (xb HB hw510_1), (xb HB hw510_2), (xb HB hw510_3)⟩ (fun hHeld => ?_)
        clear hK K
        refine norm_ (a' := ?_) ?_ ?_
        rotate_left
        ·show Act.put _ (some 25) _ = _
         simp only [Act.put, sA, sB, sC, i64_w, i32_w]
         rfl
        refine pu 9 (some 26) (bt 10 10) HT_ ?_
        refine done_ (done_of HT_.out (by kernel_rfl)) ?_
        try go_wp2
        go_roundg k1
        case measure => have := HK1.out; omega
        case rel => exact ⟨(wrap64 (x5_1 + 1)), (by first | rfl | (simp; done) | (simp [*]; done)), H', ⟨by have := HK1.out; omega⟩, ⟨bbw0 HB⟩⟩
       ·replace c8 := Bool.eq_false_iff.mpr c8
        subst c8
        have H1 : (some false) = some r := by rw [if_neg (show ¬ (false = true) by decide)] at H; first | done | exact H
        clear H
        have H := H1
        clear H1
        obtain rfl := Option.some.inj H
        try go_wp2
        replace HB := asd (below_drew1 HB.out)
        obtain ⟨p509, q509, ad509, e509, hw509_0, hw509_1, hw509_2, hw509_3, hx509_0, hx509_1, hx509_2, hx509_3⟩ := at_T51w HR0.out HB x5_1
        cases e509
        obtain ⟨p510, q510, ad510, e510, hw510_0, hw510_1, hw510_2, hw510_3, hx510_0, hx510_1, hx510_2, hx510_3⟩ := at_T51w HR1.out HB x5_1
        cases e510
        refine start_ (n := 10) (S := fun w' => w'.cell? (ad509.add ((x5_1).toNat * 4)) = some (.int .i64 ((rd_T51 l0 x5_1).f0)) ∧ w'.cell? ⟨(ad509.add ((x5_1).toNat * 4)).block, (ad509.add ((x5_1).toNat * 4)).off + 1, none⟩ = some (.int .i64 ((rd_T51 l0 x5_1).f1)) ∧ w'.cell? ⟨(ad509.add ((x5_1).toNat * 4)).block, (ad509.add ((x5_1).toNat * 4)).off + 2, none⟩ = some (.int .i64 ((rd_T51 l0 x5_1).f2)) ∧ w'.cell? ⟨(ad509.add ((x5_1).toNat * 4)).block, (ad509.add ((x5_1).toNat * 4)).off + 3, none⟩ = some (.int .i64 ((rd_T51 l0 x5_1).f3)) ∧ w'.cell? (ad510.add ((x5_1).toNat * 4)) = some (.int .i64 ((rd_T51 l1 x5_1).f0)) ∧ w'.cell? ⟨(ad510.add ((x5_1).toNat * 4)).block, (ad510.add ((x5_1).toNat * 4)).off + 1, none⟩ = some (.int .i64 ((rd_T51 l1 x5_1).f1)) ∧ w'.cell? ⟨(ad510.add ((x5_1).toNat * 4)).block, (ad510.add ((x5_1).toNat * 4)).off + 2, none⟩ = some (.int .i64 ((rd_T51 l1 x5_1).f2)) ∧ w'.cell? ⟨(ad510.add ((x5_1).toNat * 4)).block, (ad510.add ((x5_1).toNat * 4)).off + 3, none⟩ = some (.int .i64 ((rd_T51 l1 x5_1).f3))) (ds := []) (bt 10 0) (by kernel_rfl) rfl rfl ⟨(xb HB hw509_0), (xb HB hw509_1), (xb HB hw509_2), (xb HB hw509_3), (xb HB hw510_0), (xb HB hw510_1), (xb HB hw510_2), (xb HB hw510_3)⟩ (fun hHeld => ?_); refine with_tabW laws_eqMatS.tab6 laws_eqMatS.bits6 (fun HT_ HW_ => ?_)
        generalize wr.drew = w11 at HB hx509_0 hx509_1 hx509_2 hx509_3 hx510_0 hx510_1 hx510_2 hx510_3 hHeld ⊢
        refine pu 0 (some 17) (bt 10 1) HT_ ?_
        refine pu 1 (some 18) (bt 10 2) HT_ ?_
        refine pu 2 (some 19) (bt 10 3) HT_ ?_
        refine pu 4 (some 21) (bs 10 23) HT_ ?_
        refine pu 5 (some 22) (bs 10 55) HT_ ?_
        refine pu 6 (some 23) (bs 10 119) HT_ ?_
        refine ta 3 (some 20) (bt 10 7) HT_ HW_ hHeld ?_
        refine ta 7 (some 24) (bt 10 8) HT_ HW_ hHeld ?_
        refine ro 8 (some 25) (bt 10 9) HT_ (fun K hK => ?_)
        refine gs Try.func55 #[.agg #[.int .i64 ((rd_T51 l0 x5_1).f0), .int .i64 ((rd_T51 l0 x5_1).f1), .int .i64 ((rd_T51 l0 x5_1).f2), .int .i64 ((rd_T51 l0 x5_1).f3)], .agg #[.int .i64 ((rd_T51 l1 x5_1).f0), .int .i64 ((rd_T51 l1 x5_1).f1), .int .i64 ((rd_T51 l1 x5_1).f2), .int .i64 ((rd_T51 l1 x5_1).f3)]] ?_
        with_reducible refine (laws_eqMat.calls _ _ _ _ _ _ _ _ _ _ A7.out).mono ?_
        rintro e w12 ⟨rfl, hb⟩
        refine ⟨_, rfl, ?_⟩
        replace HB := bS0 HB hb
        (try clear hb)
        (try clear hb2)
        (try clear hk)
        (try clear hi)
        refine hK.out _ _ ⟨(xb HB hw509_0), (xb HB hw509_1), (xb HB hw509_2), (xb HB hw509_3), (xb HB hw510_0), (xb HB hw510_1), (xb HB hw510_2), (xb HB hw510_3)⟩ (fun hHeld => ?_)
        clear hK K
        refine norm_ (a' := ?_) ?_ ?_
        rotate_left
        ·show Act.put _ (some 25) _ = _
         simp only [Act.put, sA, sB, sC, i64_w, i32_w]
         rfl
        refine pu 9 (some 26) (bt 10 10) HT_ ?_
        refine done_ (done_of HT_.out (by kernel_rfl)) ?_
        try go_wp2
        go_ret
        exact er (bbw0 HB)
      ·rw [if_neg c6] at H
       exact absurd H (by simp)
     ·rw [if_neg c5] at H
      exact absurd H (by simp)
    ·rw [if_neg c4] at H
     have c4b0 : decide (x5_1 < (l0.length : Int)) = false := decide_eq_false c4
     clear c4
     obtain rfl := Option.some.inj H
     go_wp2
     go_ret
     exact er (bbw0 HB)
 ·rw [if_neg c3] at H
  have c3b0 : ((l0.length : Int) == (l1.length : Int)) = false := beq_eq_false_iff_ne.mpr c3
  have c3b1 : ((l0.length : Int) != (l1.length : Int)) = true := bne_iff_ne.mpr c3
  have c3b2 : (l0.length == l1.length) = false := by first | simpa using c3 | (simp at c3 ⊢; omega)
  obtain rfl := Option.some.inj H
  go_enter Try.func26, Try.ntmps26
  go_wp2
  go_ret
  exact er (bbw0 HB)
end Go.Proofs.Ytcchmdodifkloaa.PA
