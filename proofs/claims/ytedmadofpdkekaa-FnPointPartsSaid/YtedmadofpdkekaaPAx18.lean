import Derived.Test.YtedmadofpdkekaaPAx0
import Derived.Test.YtedmadofpdkekaaPAx2
import Derived.Test.YtedmadofpdkekaaPAx6
import Derived.Test.YtedmadofpdkekaaPAx12
import Derived.Test.YtedmadofpdkekaaPAx15
import Derived.Test.YtedmadofpdkekaaPAx17
namespace Go.Proofs.Ytedmadofpdkekaa.PA
open Go.RowKit Go.Proofs.YtedmadofpdkekaaW.PrintWords Go.Proofs.YtedmadofpdkekaaW.PrintLast Go.Proofs.YtedmadofpdkekaaW.PrintMore
attribute [local go_sem] max2_int min2_int max_two min_two max_three min_three max_four min_four   -- for this text's walks alone
set_option linter.unusedVariables false
set_option maxHeartbeats 8000000
set_option maxRecDepth 100000
set_option linter.unusedSimpArgs false
attribute [local go_sem high] eqA51
def spec_l06Point.l0 : Nat → List (S55) → List (S51) → Int → Option ((List (S51)))
 | 0, _, _, _ => none
 | k + 1, x0, x3, x4 => if x4 < (x0.length : Int) then (if x4 = 0 then (if 0 ≤ x4 then (if x3.length < 4398046511104 then (spec_l06Point.l0 k x0 (x3 ++ [(⟨(qr x0 x4).f0.f0, (qr x0 x4).f0.f1, (qr x0 x4).f0.f2, (qr x0 x4).f0.f3⟩ : S51)]) (wrap64 (x4 + 1))) else (none)) else (none)) else (if 0 ≤ x4 then (if 0 ≤ (wrap64 (x4 - 1)) then (if (wrap64 (x4 - 1)) < (x0.length : Int) then (if (!(((qr x0 x4).f0.f0) == ((qr x0 (wrap64 (x4 - 1))).f0.f0)) || (!(((qr x0 x4).f0.f1) == ((qr x0 (wrap64 (x4 - 1))).f0.f1)) || (!(((qr x0 x4).f0.f2) == ((qr x0 (wrap64 (x4 - 1))).f0.f2)) || (!(((qr x0 x4).f0.f3) == ((qr x0 (wrap64 (x4 - 1))).f0.f3)))))) = true then (if x3.length < 4398046511104 then (spec_l06Point.l0 k x0 (x3 ++ [(⟨(qr x0 x4).f0.f0, (qr x0 x4).f0.f1, (qr x0 x4).f0.f2, (qr x0 x4).f0.f3⟩ : S51)]) (wrap64 (x4 + 1))) else (none)) else (spec_l06Point.l0 k x0 x3 (wrap64 (x4 + 1)))) else (none)) else (none)) else (none))) else (some x3)
def spec_l06Point.f (k : Nat) (l0 : List (S55)) : Option ((List (S51))) := spec_l06Point.l0 k l0 (([] : List (S51))) 0
theorem spec_l06Point.calls (k : Nat) (A0 : Option Addr) (c0 : Nat) (l0 : List (S55)) (r : List (S51)) (w : World) (hr0 : Kd.C k55 w A0 l0.length l0) (hc0 : l0.length ≤ c0) (h : spec_l06Point.f k l0 = some r) :
  Calls Try.prog 20 #[.slice A0 l0.length c0] w fun e w' => ∃ v0_ : Value, e = .returned (v0_) ∧ Kd.R k51 51 w' w.heap.size (fun _ => True) v0_ r ∧ Below w.heap.size w w' := by
 have hu51 := Try.underlying51
 have HR0 := Aside0.mk hr0
 have A5 := Aside0.mk hc0
 clear hr0 hc0
 have HB := asd (Below.refl w.heap.size w)
 have H : (spec_l06Point.l0 k l0 (([] : List (S51))) 0) = some r := h
 clear h
 obtain ⟨AE, Ae⟩ : ∃ y_ : List (S51), y_ = (([] : List (S51))) := ⟨_, rfl⟩
 replace H : (spec_l06Point.l0 k l0 AE 0) = some r := by first | (rw [Ae]; with_reducible exact H) | (have H2_ := (Option.bind_some _ _).symm.trans H; rw [Ae]; with_reducible exact H2_) | (have H2_ := (Option.bind_some _ _).symm.trans H; with_reducible exact H2_) | with_reducible exact H | (rw [Ae]; exact H) | exact H
 have Ad := Aside0.mk Ae
 clear Ae
 have H' := Aside0.mk H
 clear H
 go_enter Try.func20, Try.ntmps20
 go_wp2_with (first | ((with_reducible refine gd 5 rfl ?_); refine Kd.R_lit k51 _ 51 ?hg (N := 5) ?hd (xs := ([] : List (S51))) (inner := []) (ok := fun _ => True) (okp := fun _ => True) ?hr ?hp (fun _ hk => hk) trivial (Below.refl _ _) (Nat.le_refl _) (by simp) ?_; (case hd => rfl); (case hg => rfl); (case hr => first | (go_simp; done) | (go_simp; rfl)); (case hp => exact (Reps.none _ _)); intro v697 w2 Af hb hg_ hnew_; clear hg_ hnew_; (first | rw [← Ad.out] at Af | (simp only [Int.reduceToNat] at Af; rw [← Ad.out] at Af)); have Ak := asd (Kd.R_lower Af (bsz0 HB)); replace HB := bS0 HB hb; clear hb Af))
 repeat (go_quiet (first | ((with_reducible refine gd 5 rfl ?_); refine Kd.R_lit k51 _ 51 ?hg (N := 5) ?hd (xs := ([] : List (S51))) (inner := []) (ok := fun _ => True) (okp := fun _ => True) ?hr ?hp (fun _ hk => hk) trivial (Below.refl _ _) (Nat.le_refl _) (by simp) ?_; (case hd => rfl); (case hg => rfl); (case hr => first | (go_simp; done) | (go_simp; rfl)); (case hp => exact (Reps.none _ _)); intro v697 w2 Af hb hg_ hnew_; clear hg_ hnew_; (first | rw [← Ad.out] at Af | (simp only [Int.reduceToNat] at Af; rw [← Ad.out] at Af)); have Ak := asd (Kd.R_lower Af (bsz0 HB)); replace HB := bS0 HB hb; clear hb Af)); try go_wp2_with (first | ((with_reducible refine gd 5 rfl ?_); refine Kd.R_lit k51 _ 51 ?hg (N := 5) ?hd (xs := ([] : List (S51))) (inner := []) (ok := fun _ => True) (okp := fun _ => True) ?hr ?hp (fun _ hk => hk) trivial (Below.refl _ _) (Nat.le_refl _) (by simp) ?_; (case hd => rfl); (case hg => rfl); (case hr => first | (go_simp; done) | (go_simp; rfl)); (case hp => exact (Reps.none _ _)); intro v697 w2 Af hb hg_ hnew_; clear hg_ hnew_; (first | rw [← Ad.out] at Af | (simp only [Int.reduceToNat] at Af; rw [← Ad.out] at Af)); have Ak := asd (Kd.R_lower Af (bsz0 HB)); replace HB := bS0 HB hb; clear hb Af)))
 go_loopg [3, 4] k (fun kq v3 v4 w' => ∃ (Ac : List (S51)) (Aa : Int), v4 = .int .i64 Aa ∧ Aside0 (spec_l06Point.l0 kq l0 Ac Aa = some r) ∧ Aside0 (kq ≤ k) ∧ Aside0 (Kd.R k51 51 w' w.heap.size (fun _ => True) v3 Ac) ∧ Aside0 (Below w.heap.size w w'))
 case atStart => exact ⟨(AE), (0), (by first | rfl | (simp; done) | (simp [*]; done)), H', ⟨Nat.le_refl _⟩, ⟨by (with_reducible repeat (first | apply Kd.R_alloc | apply Kd.R_drewN | apply Kd.R_drew)); exact Ak.out⟩, ⟨bbw0 HB⟩⟩
 case round =>
  clear H';obtain ⟨Ac, Aa, rfl, HA, AG, Ag, HB⟩ := hrel;cases gk with
  | zero => exact absurd HA.out (by simp [spec_l06Point.l0])
  | succ k1 =>
   have H := HA.out;clear HA;simp only [spec_l06Point.l0] at H;by_cases c4 : Aa < (l0.length : Int)
   rw [if_pos c4] at H;have AW := qp c4;clear c4;by_cases c5 : Aa = 0
   rw [if_pos c5] at H;have AX : (Aa == 0) = true := beq_iff_eq.mpr c5;have AY : (Aa != 0) = false := bne_eq_false_iff_eq.mpr c5;clear c5;by_cases c6 : 0 ≤ Aa
   rw [if_pos c6] at H;have A3 := qp c6;clear c6;by_cases c7 : Ac.length < 4398046511104
   rw [if_pos c7] at H;have An := Aside0.mk c7;clear c7;obtain ⟨Ao, Ah⟩ : ∃ y_ : List (S51), y_ = (Ac ++ [(⟨(qr l0 Aa).f0.f0, (qr l0 Aa).f0.f1, (qr l0 Aa).f0.f2, (qr l0 Aa).f0.f3⟩ : S51)]) := ⟨_, rfl⟩;replace H : (spec_l06Point.l0 k1 l0 Ao (wrap64 (Aa + 1))) = some r := by first | (rw [Ah]; with_reducible exact H) | (have H2_ := (Option.bind_some _ _).symm.trans H; rw [Ah]; with_reducible exact H2_) | (have H2_ := (Option.bind_some _ _).symm.trans H; with_reducible exact H2_) | with_reducible exact H | (rw [Ah]; exact H) | exact H
   have Aj := Aside0.mk Ah;clear Ah;have H' := Aside0.mk H;clear H;rotate_left
   ·rw [if_neg c7] at H;exact absurd H (by simp)
   ·rw [if_neg c6] at H;exact absurd H (by simp)
   rw [if_neg c5] at H;have AX : (Aa == 0) = false := beq_eq_false_iff_ne.mpr c5;have AY : (Aa != 0) = true := bne_iff_ne.mpr c5;by_cases c9 : 0 ≤ Aa
   rw [if_pos c9] at H;have A4 := qp c9;clear c9;obtain ⟨Ab, Al⟩ : ∃ j_ : Int, (wrap64 (Aa - 1)) = j_ := ⟨_, rfl⟩;replace H : (if 0 ≤ (Ab) then (if (Ab) < (l0.length : Int) then (if (!(((qr l0 Aa).f0.f0) == ((qr l0 (Ab)).f0.f0)) || (!(((qr l0 Aa).f0.f1) == ((qr l0 (Ab)).f0.f1)) || (!(((qr l0 Aa).f0.f2) == ((qr l0 (Ab)).f0.f2)) || (!(((qr l0 Aa).f0.f3) == ((qr l0 (Ab)).f0.f3)))))) = true then (if Ac.length < 4398046511104 then (spec_l06Point.l0 k1 l0 (Ac ++ [(⟨(qr l0 Aa).f0.f0, (qr l0 Aa).f0.f1, (qr l0 Aa).f0.f2, (qr l0 Aa).f0.f3⟩ : S51)]) (wrap64 (Aa + 1))) else (none)) else (spec_l06Point.l0 k1 l0 Ac (wrap64 (Aa + 1)))) else (none)) else (none)) = some r := by first | (rw [Al] at H; first | done | exact H) | (simp only [Al] at H ⊢; exact H)
   have AZ : (IntKind.i64.wrap (Aa - 1)) = Ab := (i64_w _).trans Al;by_cases AH : 0 ≤ (Ab)
   rw [if_pos AH] at H;have A1 := qp AH;clear AH;by_cases AI : (Ab) < (l0.length : Int)
   rw [if_pos AI] at H;have A2 := qp AI;clear AI;by_cases AD : (!(((qr l0 Aa).f0.f0) == ((qr l0 (Ab)).f0.f0)) || (!(((qr l0 Aa).f0.f1) == ((qr l0 (Ab)).f0.f1)) || (!(((qr l0 Aa).f0.f2) == ((qr l0 (Ab)).f0.f2)) || (!(((qr l0 Aa).f0.f3) == ((qr l0 (Ab)).f0.f3)))))) = true
   rw [if_pos AD] at H;have AF := AD;clear AD;by_cases AJ : Ac.length < 4398046511104
   rw [if_pos AJ] at H;have An := Aside0.mk AJ;clear AJ;obtain ⟨Ao, Ai⟩ : ∃ y_ : List (S51), y_ = (Ac ++ [(⟨(qr l0 Aa).f0.f0, (qr l0 Aa).f0.f1, (qr l0 Aa).f0.f2, (qr l0 Aa).f0.f3⟩ : S51)]) := ⟨_, rfl⟩;replace H : (spec_l06Point.l0 k1 l0 Ao (wrap64 (Aa + 1))) = some r := by first | (rw [Ai]; with_reducible exact H) | (have H2_ := (Option.bind_some _ _).symm.trans H; rw [Ai]; with_reducible exact H2_) | (have H2_ := (Option.bind_some _ _).symm.trans H; with_reducible exact H2_) | with_reducible exact H | (rw [Ai]; exact H) | exact H
   have Aj := Aside0.mk Ai;clear Ai;have H' := Aside0.mk H;clear H;rotate_left
   ·rw [if_neg AJ] at H;exact absurd H (by simp)
   rw [if_neg AD] at H;have AF : (!(((qr l0 Aa).f0.f0) == ((qr l0 (Ab)).f0.f0)) || (!(((qr l0 Aa).f0.f1) == ((qr l0 (Ab)).f0.f1)) || (!(((qr l0 Aa).f0.f2) == ((qr l0 (Ab)).f0.f2)) || (!(((qr l0 Aa).f0.f3) == ((qr l0 (Ab)).f0.f3)))))) = false := by simpa using AD
   clear AD;have H' := Aside0.mk H;clear H;rotate_left
   ·rw [if_neg AI] at H;exact absurd H (by simp)
   ·rw [if_neg AH] at H;exact absurd H (by simp)
   ·rw [if_neg c9] at H;exact absurd H (by simp)
   rw [if_neg c4] at H;have AW := qq c4;clear c4;obtain rfl := Option.some.inj H;rotate_left;obtain ⟨p699, q699, ad699, e699, AK, AL, AM, AN, AO, AP⟩ := at_T55x HR0.out HB Aa;cases e699
   rotate_left;obtain ⟨p703, q703, ad703, e703, Ap, Aq, Ar, As, At, Au⟩ := at_T55x HR0.out HB Aa;cases e703
   obtain ⟨p704, q704, ad704, e704, Av, Aw, Ax, Ay, Az, AA⟩ := at_T55x HR0.out HB (Ab);obtain rfl : ad703 = ad704 := (by injection e704);obtain ⟨p705, q705, ad705, e705, AQ, AR, AS, AT, AU, AV⟩ := at_T55x HR0.out HB Aa;obtain rfl : ad703 = ad705 := (by injection e705);rotate_left
   ·obtain ⟨p703, q703, ad703, e703, Ap, Aq, Ar, As, At, Au⟩ := at_T55x HR0.out HB Aa;cases e703
    obtain ⟨p704, q704, ad704, e704, Av, Aw, Ax, Ay, Az, AA⟩ := at_T55x HR0.out HB (Ab);obtain rfl : ad703 = ad704 := (by injection e704);go_wp2
    repeat (go_quiet (fail); try go_wp2)
    go_roundg k1
    case measure => have := AG.out; omega
    case rel => exact ⟨(Ac), (wrap64 (Aa + 1)), (by first | rfl | (simp; done) | (simp [*]; done)), H', ⟨by have := AG.out; omega⟩, ⟨by (with_reducible repeat (first | apply Kd.R_alloc | apply Kd.R_drewN | apply Kd.R_drew)); exact Ag.out⟩, ⟨bbw0 HB⟩⟩
   ·go_wp2
    repeat (go_quiet (fail); try go_wp2)
    go_ret
    exact ⟨_, by first | rfl | (simp [errW_none, errW_some] <;> rfl) | (simp [*, errW_none, errW_some] <;> rfl), by (with_reducible repeat (first | apply Kd.R_alloc | apply Kd.R_drewN | apply Kd.R_drew)); exact Ag.out, bbw0 HB⟩
   all_goals
    go_wp2_with (first | ((with_reducible refine gate_builtin (b := .append) (xs := #[.tmp 28, .tmp 34]) rfl ?_); at_builtin; refine Kd.R_append k51 (w0 := w) w.heap.size rfl (.tmp 28) (.tmp 34) 29 51 (.agg #[(.int .i64 0), (.int .i64 0), (.int .i64 0), (.int .i64 0)]) 32 rfl Try.underlying29 info51 rfl (by decide) (by omega) u3 Ac (⟨(qr l0 Aa).f0.f0, (qr l0 Aa).f0.f1, (qr l0 Aa).f0.f2, (qr l0 Aa).f0.f3⟩ : S51) [.int .i64 ((qr l0 Aa).f0.f0), .int .i64 ((qr l0 Aa).f0.f1), .int .i64 ((qr l0 Aa).f0.f2), .int .i64 ((qr l0 Aa).f0.f3)] (fun _ => True) (fun _ => False) rfl rfl ?aP (fun _ hk => hk.elim) ?aF ?aO ?aB ?aS ?aL ?_; (case aP => exact k51_mkM _ _ _ (⟨(qr l0 Aa).f0.f0, (qr l0 Aa).f0.f1, (qr l0 Aa).f0.f2, (qr l0 Aa).f0.f3⟩ : S51)); (case aB => exact (bbw0 HB)); (case aF => exact (fun _ _ => trivial)); (case aO => exact (kr Ag)); (case aS => exact (bsz0 HB)); (case aL => have := An.out; omega); intro v701 w8 ho hb hg hat; rw [← Aj.out] at ho; have AB := asd (hb); have AC := asd (ho); clear HB; clear Ag; have HB := AB; have Am := AC; clear AB AC; clear ho hb hg hat));repeat (go_quiet (first | ((with_reducible refine gate_builtin (b := .append) (xs := #[.tmp 28, .tmp 34]) rfl ?_); at_builtin; refine Kd.R_append k51 (w0 := w) w.heap.size rfl (.tmp 28) (.tmp 34) 29 51 (.agg #[(.int .i64 0), (.int .i64 0), (.int .i64 0), (.int .i64 0)]) 32 rfl Try.underlying29 info51 rfl (by decide) (by omega) u3 Ac (⟨(qr l0 Aa).f0.f0, (qr l0 Aa).f0.f1, (qr l0 Aa).f0.f2, (qr l0 Aa).f0.f3⟩ : S51) [.int .i64 ((qr l0 Aa).f0.f0), .int .i64 ((qr l0 Aa).f0.f1), .int .i64 ((qr l0 Aa).f0.f2), .int .i64 ((qr l0 Aa).f0.f3)] (fun _ => True) (fun _ => False) rfl rfl ?aP (fun _ hk => hk.elim) ?aF ?aO ?aB ?aS ?aL ?_; (case aP => exact k51_mkM _ _ _ (⟨(qr l0 Aa).f0.f0, (qr l0 Aa).f0.f1, (qr l0 Aa).f0.f2, (qr l0 Aa).f0.f3⟩ : S51)); (case aB => exact (bbw0 HB)); (case aF => exact (fun _ _ => trivial)); (case aO => exact (kr Ag)); (case aS => exact (bsz0 HB)); (case aL => have := An.out; omega); intro v701 w8 ho hb hg hat; rw [← Aj.out] at ho; have AB := asd (hb); have AC := asd (ho); clear HB; clear Ag; have HB := AB; have Am := AC; clear AB AC; clear ho hb hg hat)); try go_wp2_with (first | ((with_reducible refine gate_builtin (b := .append) (xs := #[.tmp 28, .tmp 34]) rfl ?_); at_builtin; refine Kd.R_append k51 (w0 := w) w.heap.size rfl (.tmp 28) (.tmp 34) 29 51 (.agg #[(.int .i64 0), (.int .i64 0), (.int .i64 0), (.int .i64 0)]) 32 rfl Try.underlying29 info51 rfl (by decide) (by omega) u3 Ac (⟨(qr l0 Aa).f0.f0, (qr l0 Aa).f0.f1, (qr l0 Aa).f0.f2, (qr l0 Aa).f0.f3⟩ : S51) [.int .i64 ((qr l0 Aa).f0.f0), .int .i64 ((qr l0 Aa).f0.f1), .int .i64 ((qr l0 Aa).f0.f2), .int .i64 ((qr l0 Aa).f0.f3)] (fun _ => True) (fun _ => False) rfl rfl ?aP (fun _ hk => hk.elim) ?aF ?aO ?aB ?aS ?aL ?_; (case aP => exact k51_mkM _ _ _ (⟨(qr l0 Aa).f0.f0, (qr l0 Aa).f0.f1, (qr l0 Aa).f0.f2, (qr l0 Aa).f0.f3⟩ : S51)); (case aB => exact (bbw0 HB)); (case aF => exact (fun _ _ => trivial)); (case aO => exact (kr Ag)); (case aS => exact (bsz0 HB)); (case aL => have := An.out; omega); intro v701 w8 ho hb hg hat; rw [← Aj.out] at ho; have AB := asd (hb); have AC := asd (ho); clear HB; clear Ag; have HB := AB; have Am := AC; clear AB AC; clear ho hb hg hat)))
    go_roundg k1
    case measure => have := AG.out; omega
    case rel => exact ⟨(Ao), (wrap64 (Aa + 1)), (by first | rfl | (simp; done) | (simp [*]; done)), H', ⟨by have := AG.out; omega⟩, ⟨by (with_reducible repeat (first | apply Kd.R_alloc | apply Kd.R_drewN | apply Kd.R_drew)); exact Am.out⟩, ⟨bbw0 HB⟩⟩
def spec_PointPart.f (k : Nat) (a0 : Int) (Ac : Int) (Ad : Int) (Ae : Int) (l2 : List (S55)) : Option ((List (S51)) × Int) := (spec_IsGroup.f k a0 Ac Ad Ae l2).bind fun Ag => ((spec_l06Code.f a0 Ac Ad Ae Ag).bind fun Ab => (if Ab = 0 then ((spec_l06Point.f k l2).bind fun Ah => (some (Ah, 0))) else (some (([] : List (S51)), Ab))))
def spec_PointPart.T1 : Bool × List (List Nat × List Nat) := (true, [([], []), ([], []), ([], []), ([], []), ([], []), ([2, 3, 4], [2, 3, 4]), ([0, 1, 5, 5], [0, 1, 5]), ([6, 6, 0, 1, 2, 3, 4, 5, 6], [6])])
def spec_PointPart.B1 : List Nat := [0, 0, 0, 0, 0, 28, 63, 127]
theorem spec_PointPart.tab1 : rtab .any (opsOf Try.f7 1) = spec_PointPart.T1 := by kernel_rfl
theorem spec_PointPart.bits1 : waitsOk spec_PointPart.T1.2 spec_PointPart.B1 = true := by kernel_rfl
theorem spec_PointPart.calls (k : Nat) (a0 : Int) (Ac : Int) (Ad : Int) (Ae : Int) (A2 : Option Addr) (c2 : Nat) (l2 : List (S55)) (r1 : List (S51)) (r2 : Int) (w : World) (hr2 : Kd.C k55 w A2 l2.length l2) (hc2 : l2.length ≤ c2) (h : spec_PointPart.f k a0 Ac Ad Ae l2 = some (r1, r2)) :
  Calls Try.prog 7 #[.int .i64 a0, .agg #[.int .i64 Ac, .int .i64 Ad, .int .i64 Ae], .slice A2 l2.length c2] w fun e w' => ∃ v0_ : Value, e = .returned (.tuple #[v0_, .int .i64 r2]) ∧ Kd.R k51 51 w' w.heap.size (fun _ => True) v0_ r1 ∧ Below w.heap.size w w' := by
 have hu25 := Try.underlying25
 have HR2 := Aside0.mk hr2
 have Al := Aside0.mk hc2
 clear hr2 hc2
 have HB := asd (Below.refl w.heap.size w)
 have H : ((spec_IsGroup.f k a0 Ac Ad Ae l2).bind fun Ag => ((spec_l06Code.f a0 Ac Ad Ae Ag).bind fun Ab => (if Ab = 0 then ((spec_l06Point.f k l2).bind fun Ah => (some (Ah, 0))) else (some (([] : List (S51)), Ab))))) = some (r1, r2) := h
 clear h
 obtain ⟨Ag, A4, H⟩ := ob H
 try dsimp only at H
 obtain ⟨Ab, A5, H⟩ := ob H
 try dsimp only at H
 by_cases c6 : Ab = 0
 rw [if_pos c6] at H
 have Aj : (Ab == 0) = true := beq_iff_eq.mpr c6
 have Ak : (Ab != 0) = false := bne_eq_false_iff_eq.mpr c6
 clear c6
 obtain ⟨Ah, A7, H⟩ := ob H
 try dsimp only at H
 rotate_left
 rw [if_neg c6] at H
 have Aj : (Ab == 0) = false := beq_eq_false_iff_ne.mpr c6
 have Ak : (Ab != 0) = true := bne_iff_ne.mpr c6
 rotate_left
 all_goals
  simp only [Option.some.injEq, Prod.mk.injEq] at H;obtain ⟨rfl, rfl⟩ := H;go_enter Try.func7, Try.ntmps7
  try go_wp2_with (first | ((with_reducible refine gd 4 rfl ?_); refine bx #[.int .i64 Ac, .int .i64 Ad, .int .i64 Ae] 25 ?_; intro Am hg w8 Aa hb; have Af := ngw0 hg HB; replace HB := bS0 HB hb; clear hb hg))
  replace Aa := asd (blk_drew Aa.out);replace HB := asd (qm HB.out);refine sh 8 (eb3 Aa) (fun hHeld => ?_); refine with_tabW spec_PointPart.tab1 spec_PointPart.bits1 (fun HT_ HW_ => ?_);generalize w8.drew = w9 at Aa HB hHeld ⊢;refine pu 0 (some 9) (bT 8 1) HT_ ?_;refine pu 2 (some 11) (bs 8 5) HT_ ?_;refine pu 4 (some 13) (bs 8 21) HT_ ?_;refine ta 1 (some 10) (bs 8 23) HT_ HW_ hHeld ?_;refine ta 3 (some 12) (bT 8 5) HT_ HW_ hHeld ?_;refine ro 5 (some 14) (bT 8 6) HT_ (fun K hK => ?_);refine gs Try.func19 #[.int .i64 a0, .agg #[.int .i64 Ac, .int .i64 Ad, .int .i64 Ae], .slice A2 l2.length c2] ?_;with_reducible refine (spec_IsGroup.calls _ _ _ _ _ _ _ _ _ _ ?side1 ?side2 A4.out).mono ?_
  (case side1 => exact ks (Kd.C_below HR2.out HB.out))
  (case side2 => exact Al.out)
  rintro e Ao ⟨rfl, hb⟩;refine ⟨_, rfl, ?_⟩;replace Aa := bB Aa hb;replace HB := bS1 HB Af hb;(try clear hb);(try clear hb2);(try clear hk);(try clear hi);refine hK.out _ _ (eb3 Aa).out (fun hHeld => ?_);clear hK K;refine norm_ (a' := ?_) ?_ ?_;rotate_left
  ·show Act.put _ (some 14) _ = _
   simp only [Act.put, sA, sB, sC, i64_w, i32_w];rfl
  refine ro 6 (some 15) (bT 8 7) HT_ (fun K hK => ?_);refine gs Try.func18 #[.int .i64 a0, .agg #[.int .i64 Ac, .int .i64 Ad, .int .i64 Ae], .bool Ag] ?_;with_reducible refine (spec_l06Code.calls _ _ _ _ _ _ _ A5.out).mono ?_
  rintro e Ap ⟨rfl, hb⟩;refine ⟨_, rfl, ?_⟩;replace Aa := bB Aa hb;replace HB := bS1 HB Af hb;(try clear hb);(try clear hb2);(try clear hk);(try clear hi);refine hK.out _ _ (eb3 Aa).out (fun hHeld => ?_);clear hK K;refine norm_ (a' := ?_) ?_ ?_;rotate_left
  ·show Act.put _ (some 15) _ = _
   simp only [Act.put, sA, sB, sC, i64_w, i32_w];rfl
  refine pu 7 (some 8) (bT 8 8) HT_ ?_;refine done_ (done_of HT_.out (by kernel_rfl)) ?_
 ·try go_wp2_with (first | ((with_reducible refine gate_callee (f := 20) rfl ?_); refine gl 20 Try.func20 #[.slice A2 l2.length c2] ?_; (with_reducible refine (spec_l06Point.calls _ _ _ _ _ _ ?side1 ?side2 A7.out).mono ?_); (case side1 => exact ks (Kd.C_below HR2.out HB.out)); (case side2 => exact Al.out); rintro e Aq ⟨v713, rfl, An, hb⟩; refine ⟨_, rfl, ?_⟩; have Ai := asd (Kd.R_lower An (bsz1 HB Af)); replace Aa := bB Aa hb; replace HB := bS1 HB Af hb; (try clear hb); (try clear hb2); (try clear hk); (try clear hi); (try clear An)))
  go_ret2
  exact ⟨_, by first | rfl | (simp [errW_none, errW_some] <;> rfl) | (simp [*, errW_none, errW_some] <;> rfl), by (with_reducible repeat (first | apply Kd.R_alloc | apply Kd.R_drewN | apply Kd.R_drew)); exact Ai.out, bbw1 HB Af⟩
 ·try go_wp2
  go_ret2
  exact ⟨_, by first | rfl | (simp [errW_none, errW_some] <;> rfl) | (simp [*, errW_none, errW_some] <;> rfl), by first | exact Kd.R_nil _ _ _ _ _ | exact Kd.N_nil _ _ _ _ _ | exact Kd.V_nil _ _ _ _ _ | exact Kd.Q_nil _ _ _ _ _ | exact Kd.S_nil _ _ _ _ _, bbw1 HB Af⟩
def impl_shiftsOf.l0 : Nat → List (S53) → List (S55) → Int → Int → Option ((List (S53)))
 | 0, _, _, _, _ => none
 | k + 1, x3, x7, x8, x9 => if x9 < x8 then (if 0 ≤ x9 then (if x9 < (x7.length : Int) then ((impl_unit.f).bind fun Am => (if (((qr x7 x9).f0.f0) == Am.1 && (((qr x7 x9).f0.f1) == Am.2.1 && (((qr x7 x9).f0.f2) == Am.2.2.1 && (((qr x7 x9).f0.f3) == Am.2.2.2)))) = true then (if x3.length < 8796093022208 then (impl_shiftsOf.l0 k (x3 ++ [(⟨(qr x7 x9).f1.f0, (qr x7 x9).f1.f1⟩ : S53)]) x7 x8 (wrap64 (x9 + 1))) else (none)) else (impl_shiftsOf.l0 k x3 x7 x8 (wrap64 (x9 + 1))))) else (none)) else (none)) else (some x3)
def impl_shiftsOf.f (k : Nat) (l0 : List (S55)) : Option ((List (S53))) := impl_shiftsOf.l0 k (([] : List (S53))) l0 (l0.length : Int) 0
theorem impl_shiftsOf.calls (k : Nat) (A0 : Option Addr) (c0 : Nat) (l0 : List (S55)) (r : List (S53)) (w : World) (hr0 : Kd.C k55 w A0 l0.length l0) (hc0 : l0.length ≤ c0) (h : impl_shiftsOf.f k l0 = some r) :
  Calls Try.prog 21 #[.slice A0 l0.length c0] w fun e w' => ∃ v0_ : Value, e = .returned (v0_) ∧ Kd.R k53 53 w' w.heap.size (fun _ => True) v0_ r ∧ Below w.heap.size w w' := by
 have hu55 := Try.underlying55
 have hu51 := Try.underlying51
 have hu53 := Try.underlying53
 have HR0 := Aside0.mk hr0
 have Be := Aside0.mk hc0
 clear hr0 hc0
 have HB := asd (Below.refl w.heap.size w)
 have H : (impl_shiftsOf.l0 k (([] : List (S53))) l0 (l0.length : Int) 0) = some r := h
 clear h
 obtain ⟨Ao, Af⟩ : ∃ y_ : List (S53), y_ = (([] : List (S53))) := ⟨_, rfl⟩
 replace H : (impl_shiftsOf.l0 k Ao l0 (l0.length : Int) 0) = some r := by first | (rw [Af]; with_reducible exact H) | (have H2_ := (Option.bind_some _ _).symm.trans H; rw [Af]; with_reducible exact H2_) | (have H2_ := (Option.bind_some _ _).symm.trans H; with_reducible exact H2_) | with_reducible exact H | (rw [Af]; exact H) | exact H
 have An := Aside0.mk Af
 clear Af
 have H' := Aside0.mk H
 clear H
 go_enter Try.func21, Try.ntmps21
 go_wp2_with (first | ((with_reducible refine gd 6 rfl ?_); refine Kd.R_lit k53 _ 53 ?hg (N := 6) ?hd (xs := ([] : List (S53))) (inner := []) (ok := fun _ => True) (okp := fun _ => True) ?hr ?hp (fun _ hk => hk) trivial (Below.refl _ _) (Nat.le_refl _) (by simp) ?_; (case hd => rfl); (case hg => rfl); (case hr => first | (go_simp; done) | (go_simp; rfl)); (case hp => exact (Reps.none _ _)); intro v716 w2 Ap hb hg_ hnew_; clear hg_ hnew_; (first | rw [← An.out] at Ap | (simp only [Int.reduceToNat] at Ap; rw [← An.out] at Ap)); have Aq := asd (Kd.R_lower Ap (bsz0 HB)); replace HB := bS0 HB hb; clear hb Ap))
 go_loopg [3, 9] k (fun kq v3 v9 w' => ∃ (Ag : List (S53)) (Aa : Int), v9 = .int .i64 Aa ∧ Aside0 (impl_shiftsOf.l0 kq Ag l0 (l0.length : Int) Aa = some r) ∧ Aside0 (kq ≤ k) ∧ Aside0 (Kd.R k53 53 w' w.heap.size (fun _ => True) v3 Ag) ∧ Aside0 (Below w.heap.size w w'))
 case atStart => exact ⟨(Ao), (0), (by first | rfl | (simp; done) | (simp [*]; done)), H', ⟨Nat.le_refl _⟩, ⟨by (with_reducible repeat (first | apply Kd.R_alloc | apply Kd.R_drewN | apply Kd.R_drew)); exact Aq.out⟩, ⟨bbw0 HB⟩⟩
 case round =>
  clear H';obtain ⟨Ag, Aa, rfl, HA, Au, Ac, HB⟩ := hrel;cases gk with
  | zero => exact absurd HA.out (by simp [impl_shiftsOf.l0])
  | succ k1 =>
   have H := HA.out;clear HA;simp only [impl_shiftsOf.l0] at H;by_cases c4 : Aa < (l0.length : Int)
   rw [if_pos c4] at H;have A1 := qp c4;clear c4;by_cases c5 : 0 ≤ Aa
   rw [if_pos c5] at H;have Ba := qp c5;clear c5;by_cases c6 : Aa < (l0.length : Int)
   rw [if_pos c6] at H;have Bb := qp c6;clear c6;obtain ⟨⟨Ai, Aj, Ak, Al⟩, A7, H⟩ := ob H;try dsimp only at H
   by_cases c8 : (((qr l0 Aa).f0.f0) == Ai && (((qr l0 Aa).f0.f1) == Aj && (((qr l0 Aa).f0.f2) == Ak && (((qr l0 Aa).f0.f3) == Al)))) = true
   rw [if_pos c8] at H;have A2 := c8;(try (have A3 : decide (((qr l0 Aa).f0.f0) = Ai && (((qr l0 Aa).f0.f1) == Aj && (((qr l0 Aa).f0.f2) == Ak && (((qr l0 Aa).f0.f3) == Al)))) = true := by simpa using c8));(try (have A4 : (((qr l0 Aa).f0.f0) == Ai && (((qr l0 Aa).f0.f1) == Aj && (((qr l0 Aa).f0.f2) == Ak && (((qr l0 Aa).f0.f3) == Al)))) = true := by simpa using c8));clear c8;by_cases c9 : Ag.length < 8796093022208
   rw [if_pos c9] at H;have A5 := Aside0.mk c9;clear c9;obtain ⟨Ar, Ah⟩ : ∃ y_ : List (S53), y_ = (Ag ++ [(⟨(qr l0 Aa).f1.f0, (qr l0 Aa).f1.f1⟩ : S53)]) := ⟨_, rfl⟩;replace H : (impl_shiftsOf.l0 k1 Ar l0 (l0.length : Int) (wrap64 (Aa + 1))) = some r := by first | (rw [Ah]; with_reducible exact H) | (have H2_ := (Option.bind_some _ _).symm.trans H; rw [Ah]; with_reducible exact H2_) | (have H2_ := (Option.bind_some _ _).symm.trans H; with_reducible exact H2_) | with_reducible exact H | (rw [Ah]; exact H) | exact H
   have As := Aside0.mk Ah;clear Ah;have H' := Aside0.mk H;clear H;rotate_left
   ·rw [if_neg c9] at H;exact absurd H (by simp)
   rw [if_neg c8] at H;have A2 : (((qr l0 Aa).f0.f0) == Ai && (((qr l0 Aa).f0.f1) == Aj && (((qr l0 Aa).f0.f2) == Ak && (((qr l0 Aa).f0.f3) == Al)))) = false := by simpa using c8
   (try (have A3 : decide (((qr l0 Aa).f0.f0) = Ai && (((qr l0 Aa).f0.f1) == Aj && (((qr l0 Aa).f0.f2) == Ak && (((qr l0 Aa).f0.f3) == Al)))) = false := by simpa using c8));(try (have A4 : (((qr l0 Aa).f0.f0) == Ai && (((qr l0 Aa).f0.f1) == Aj && (((qr l0 Aa).f0.f2) == Ak && (((qr l0 Aa).f0.f3) == Al)))) = false := by simpa using c8));(try (have Bc : ¬ (((qr l0 Aa).f0.f0) = Ai && (((qr l0 Aa).f0.f1) == Aj && (((qr l0 Aa).f0.f2) == Ak && (((qr l0 Aa).f0.f3) == Al)))) := by simpa using c8));clear c8;have H' := Aside0.mk H;clear H;rotate_left
   ·rw [if_neg c6] at H;exact absurd H (by simp)
   ·rw [if_neg c5] at H;exact absurd H (by simp)
   rw [if_neg c4] at H;have A1 := qq c4;clear c4;obtain rfl := Option.some.inj H;rotate_left;rotate_left 2
   ·go_wp2
    go_ret
    exact ⟨_, by first | rfl | (simp [errW_none, errW_some] <;> rfl) | (simp [*, errW_none, errW_some] <;> rfl), by (with_reducible repeat (first | apply Kd.R_alloc | apply Kd.R_drewN | apply Kd.R_drew)); exact Ac.out, bbw0 HB⟩
   all_goals
    obtain ⟨p718, q718, ad718, e718, Av, Aw, Ax, Ay, Az, AA⟩ := at_T55x HR0.out HB Aa;cases e718
    try go_wp2_with (first | ((with_reducible refine gd 5 rfl ?_); refine bx #[.int .i64 0, .int .i64 0, .int .i64 0, .int .i64 0, .int .i64 0, .int .i64 0] 55 ?_; intro Ad hg Bd Ab hb; replace Ac := asd (Kd.R_below (kr Ac) hb); have Ae := ngw0 hg HB; replace HB := bS0 HB hb; clear hb hg; obtain ⟨AB, AC, AD, AE, AF, AG, AH, AI, AJ, AK, AL, AM⟩ := bz6 Ab))
    obtain ⟨AN, h_w12⟩ : ∃ w_, ((((((Bd.setCell ⟨Ad, 0, none⟩ (.int .i64 ((qr l0 Aa).f0.f0))).setCell ⟨Ad, 1, none⟩ (.int .i64 ((qr l0 Aa).f0.f1))).setCell ⟨Ad, 2, none⟩ (.int .i64 ((qr l0 Aa).f0.f2))).setCell ⟨Ad, 3, none⟩ (.int .i64 ((qr l0 Aa).f0.f3))).setCell ⟨Ad, 4, none⟩ (.int .i64 ((qr l0 Aa).f1.f0))).setCell ⟨Ad, 5, none⟩ (.int .i64 ((qr l0 Aa).f1.f1))) = w_ := ⟨_, rfl⟩;replace Ac : Aside0 (Kd.R k53 53 AN w.heap.size (fun _ => True) u3 Ag) := by rw [← h_w12]; exact ⟨by (with_reducible repeat (first | apply Kd.R_alloc | apply Kd.R_drewN | apply Kd.R_drew)); exact Kd.R_mono (rw6 (Kd.R_types Ac.out Ab.out (by decide))) (fun _ hk => trivial)⟩
    replace Ab : Aside0 (AN.heap[Ad]? = some (.cells #[.int .i64 ((qr l0 Aa).f0.f0), .int .i64 ((qr l0 Aa).f0.f1), .int .i64 ((qr l0 Aa).f0.f2), .int .i64 ((qr l0 Aa).f0.f3), .int .i64 ((qr l0 Aa).f1.f0), .int .i64 ((qr l0 Aa).f1.f1)] 55 (0, 0))) := by rw [← h_w12]; exact ⟨bq0 Ab⟩
    replace HB : Aside0 (Below w.heap.size w AN) := by rw [← h_w12]; exact ⟨bbw1 HB Ae⟩
    (try rw [h_w12]); clear h_w12
    replace Ac := asd (Kd.R_drew Ac.out);replace Ab := asd (blk_drew Ab.out);replace HB := asd (qm HB.out);refine sh 4 (eb6 Ab) (fun hHeld => ?_);generalize AN.drew = Bf at Ac Ab HB hHeld ⊢;refine pure_ (i := 0) (N := some 13) (v := ?_) (a' := ?_) (bT 4 1) rfl rfl (by kernel_rfl) (fun _ _ _ h => h) (Or.inl ⟨by rfl, ?_⟩) ?_ ?_;rotate_left
    ·intro w';go_simp;with_reducible rfl
    rotate_left
    ·simp only [Act.put, sA, sB, sC, i64_w, i32_w];rfl
    refine take_ (i := 1) (N := some 14) (v := ?_) (a' := ?_) (bT 4 2) rfl rfl (by kernel_rfl) (fun _ _ _ h => h) (Or.inl ⟨by rfl, ?_⟩) hHeld ?_ ?_;rotate_left
    ·rintro w' ⟨s0, s1, s2, s3, s4, s5⟩;go_simp;with_reducible rfl
    rotate_left
    ·simp only [Act.put, sA, sB, sC, i64_w, i32_w];rfl
    refine one_ (i := 2) (N := some 15) (bT 4 3) rfl rfl (by kernel_rfl) (by decide) (fun K hK => ?_);refine gs Try.func40 #[] ?_;with_reducible refine (impl_unit.calls _ _ _ _ _ A7.out).mono ?_
    rintro e Bg ⟨rfl, hb⟩;refine ⟨_, rfl, ?_⟩;replace Ac := asd (Kd.R_below (kr Ac) hb);replace Ab := bB Ab hb;replace HB := bS1 HB Ae hb;(try clear hb);(try clear hb2);(try clear hk);(try clear hi);refine hK.out _ _ (eb6 Ab).out (fun hHeld => ?_);clear hK K;refine norm_ (a' := ?_) ?_ ?_;rotate_left
    ·show Act.put _ (some 15) _ = _
     simp only [Act.put, sA, sB, sC, i64_w, i32_w];rfl
    refine pure_ (i := 3) (N := some 16) (v := ?_) (a' := ?_) (bT 4 4) rfl rfl (by kernel_rfl) (fun _ _ _ h => h) (Or.inl ⟨by rfl, ?_⟩) ?_ ?_;rotate_left
    ·intro w';go_simp;with_reducible rfl
    rotate_left
    ·simp only [Act.put, sA, sB, sC, i64_w, i32_w];rfl
    refine done_ (by kernel_rfl) ?_
   ·obtain ⟨AO, AP, AQ, AR, AS, AT, AU, AV, AW, AX, AY, AZ⟩ := bz6 Ab;try go_wp2_with (first | ((with_reducible refine gate_builtin (b := .append) (xs := #[.tmp 17, .tmp 20]) rfl ?_); at_builtin; refine Kd.R_append k53 (w0 := w) w.heap.size rfl (.tmp 17) (.tmp 20) 32 53 (.agg #[(.int .i64 0), (.int .i64 0)]) 16 rfl Try.underlying32 info53 rfl (by decide) (by omega) u3 Ag (⟨(qr l0 Aa).f1.f0, (qr l0 Aa).f1.f1⟩ : S53) [.int .i64 ((qr l0 Aa).f1.f0), .int .i64 ((qr l0 Aa).f1.f1)] (fun _ => True) (fun _ => False) rfl rfl ?aP (fun _ hk => hk.elim) ?aF ?aO ?aB ?aS ?aL ?_; (case aP => exact k53_mkM _ _ _ (⟨(qr l0 Aa).f1.f0, (qr l0 Aa).f1.f1⟩ : S53)); (case aB => exact (bbw1 HB Ae)); (case aF => exact (fun _ _ => trivial)); (case aO => exact (kr Ac)); (case aS => exact (bsz1 HB Ae)); (case aL => have := A5.out; omega); intro v725 Bh ho hb hg hat; rw [← As.out] at ho; have A6 := asd (blk_grown (g := Ad) (o := .cells #[.int .i64 ((qr l0 Aa).f0.f0), .int .i64 ((qr l0 Aa).f0.f1), .int .i64 ((qr l0 Aa).f0.f2), .int .i64 ((qr l0 Aa).f0.f3), .int .i64 ((qr l0 Aa).f1.f0), .int .i64 ((qr l0 Aa).f1.f1)] 55 (0, 0)) (bkp Ab) hg (Kd.R_ne Ac.out Ab.out (by decide))); have A8 := asd (hb); have A9 := asd (ho); clear Ab; clear HB; clear Ac; have Ab := A6; have HB := A8; have At := A9; clear A6 A8 A9; clear ho hb hg hat))
    go_roundg k1
    case measure => have := Au.out; omega
    case rel => exact ⟨(Ar), (wrap64 (Aa + 1)), (by first | rfl | (simp; done) | (simp [*]; done)), H', ⟨by have := Au.out; omega⟩, ⟨by (with_reducible repeat (first | apply Kd.R_alloc | apply Kd.R_drewN | apply Kd.R_drew)); exact At.out⟩, ⟨bbw1 HB Ae⟩⟩
   ·try go_wp2
    go_roundg k1
    case measure => have := Au.out; omega
    case rel => exact ⟨(Ag), (wrap64 (Aa + 1)), (by first | rfl | (simp; done) | (simp [*]; done)), H', ⟨by have := Au.out; omega⟩, ⟨by (with_reducible repeat (first | apply Kd.R_alloc | apply Kd.R_drewN | apply Kd.R_drew)); exact Ac.out⟩, ⟨bbw1 HB Ae⟩⟩
def impl_ShiftsOf.f (k : Nat) (a0 : Int) (Af : Int) (Ag : Int) (Ah : Int) (l2 : List (S55)) : Option ((List (S53)) × Int) := (impl_groupCode.f k a0 Af Ag Ah (([l2] : List (List (S55))))).bind fun Aa => (if Aa = 0 then ((impl_shiftsOf.f k l2).bind fun Aj => (some (Aj, 0))) else (some (([] : List (S53)), Aa)))
theorem impl_ShiftsOf.calls (k : Nat) (a0 : Int) (Af : Int) (Ag : Int) (Ah : Int) (P2_ : Nat → Prop) (A2 : Option Addr) (c2 : Nat) (l2 : List (S55)) (r1 : List (S53)) (r2 : Int) (w : World) (hs2 : Kd.V k55 55 w w.heap.size (fun k_ => P2_ k_) (.slice A2 l2.length c2) l2) (h : impl_ShiftsOf.f k a0 Af Ag Ah l2 = some (r1, r2)) :
  Calls Try.prog 8 #[.int .i64 a0, .agg #[.int .i64 Af, .int .i64 Ag, .int .i64 Ah], .slice A2 l2.length c2] w fun e w' => ∃ v0_ : Value, e = .returned (.tuple #[v0_, .int .i64 r2]) ∧ Kd.R k53 53 w' w.heap.size (fun k_ => (w.heap.size ≤ k_)) v0_ r1 ∧ Below w.heap.size w w' := by
 have hu25 := Try.underlying25
 have Al := asd (show Kd.V k55 55 w w.heap.size (fun k_ => (P2_ k_ ∨ w.heap.size ≤ k_)) (.slice A2 l2.length c2) l2 from Kd.V_mono hs2 (fun k_ hk => .inl hk))
 have HB := asd (Below.refl w.heap.size w)
 have H : ((impl_groupCode.f k a0 Af Ag Ah (([l2] : List (List (S55))))).bind fun Aa => (if Aa = 0 then ((impl_shiftsOf.f k l2).bind fun Aj => (some (Aj, 0))) else (some (([] : List (S53)), Aa)))) = some (r1, r2) := h
 clear h
 obtain ⟨An, Ai⟩ : ∃ y_ : List (List (S55)), y_ = (([l2] : List (List (S55)))) := ⟨_, rfl⟩
 replace H : ((impl_groupCode.f k a0 Af Ag Ah An).bind fun Aa => (if Aa = 0 then ((impl_shiftsOf.f k l2).bind fun Aj => (some (Aj, 0))) else (some (([] : List (S53)), Aa)))) = some (r1, r2) := by first | (rw [Ai]; with_reducible exact H) | (have H2_ := (Option.bind_some _ _).symm.trans H; rw [Ai]; with_reducible exact H2_) | (have H2_ := (Option.bind_some _ _).symm.trans H; with_reducible exact H2_) | with_reducible exact H | (rw [Ai]; exact H) | exact H
 have Am := Aside0.mk Ai
 clear Ai
 obtain ⟨Aa, A4, H⟩ := ob H
 try dsimp only at H
 by_cases c5 : Aa = 0
 rw [if_pos c5] at H
 have Aq : (Aa == 0) = true := beq_iff_eq.mpr c5
 have Ar : (Aa != 0) = false := bne_eq_false_iff_eq.mpr c5
 clear c5
 obtain ⟨Aj, A6, H⟩ := ob H
 try dsimp only at H
 rotate_left
 rw [if_neg c5] at H
 have Aq : (Aa == 0) = false := beq_eq_false_iff_ne.mpr c5
 have Ar : (Aa != 0) = true := bne_iff_ne.mpr c5
 rotate_left
 all_goals
  simp only [Option.some.injEq, Prod.mk.injEq] at H;obtain ⟨rfl, rfl⟩ := H;go_enter Try.func8, Try.ntmps8
  go_wp2_with (first | ((with_reducible refine gd 4 rfl ?_); refine bx #[.int .i64 Af, .int .i64 Ag, .int .i64 Ah] 25 ?_; intro Ad hg w7 Ac hb; replace Al := asd (Kd.V_below (Kd.V_elderB (by (with_reducible repeat (first | apply Kd.V_alloc | apply Kd.V_drewN | apply Kd.V_drew)); exact Al.out) Ad (Nat.le_of_eq hg.symm)) hb); have Ab := ngw0 hg HB; replace HB := bS0 HB hb; clear hb hg; obtain ⟨As, At, Au, Av, Aw, Ax⟩ := bz3 Ac) | ((with_reducible refine gd 12 rfl ?_); refine Kd.N_lit (Kd.slice 55 k55) _ 26 ?hg (N' := 12) ?hd (xs := ([l2] : List (List (S55)))) (inner := [.slice A2 l2.length c2]) (ok := (fun k_ => (P2_ k_ ∨ w.heap.size ≤ k_) ∧ k_ ≠ Ad)) (okp := (fun k_ => (P2_ k_ ∨ w.heap.size ≤ k_) ∧ k_ ≠ Ad)) ?hr ?hp (fun _ hk => hk) ((show ∀ k_, w7.heap.size ≤ k_ → (fun k_ => (P2_ k_ ∨ w.heap.size ≤ k_) ∧ k_ ≠ Ad) k_ from fun k_ hk => ⟨(.inr (Nat.le_trans (bsz1 HB Ab) hk)), Kd.freshB (g := Ad) (o := .cells #[.int .i64 Af, .int .i64 Ag, .int .i64 Ah] 25 (0, 0)) (bkp Ac) k_ hk⟩) _ (Nat.le_refl _)) (Below.refl _ _) (Nat.le_refl _) (by simp) ?_; (case hd => rfl); (case hg => rfl); (case hr => first | (go_simp; done) | (go_simp; rfl)); (case hp => exact (Reps.one (show Kd.FK (Kd.slice 55 k55) _ _ l2 [.slice A2 l2.length c2] from (Kd.FK_slice_mk (Kd.V_reads' (Kd.V_mono (ok' := (fun k_ => (P2_ k_ ∨ w.heap.size ≤ k_) ∧ k_ ≠ Ad)) (Al.out) (fun k_ hk => ⟨hk.1, hk.2⟩))).2.1 (Kd.V_F (Kd.V_mono (ok' := (fun k_ => (P2_ k_ ∨ w.heap.size ≤ k_) ∧ k_ ≠ Ad)) (Al.out) (fun k_ hk => ⟨hk.1, hk.2⟩))))) (Reps.none _ _))); intro v729 w9 Ak hb hg_ hnew_; clear hg_ hnew_; (first | rw [← Am.out] at Ak | (simp only [Int.reduceToNat] at Ak; rw [← Am.out] at Ak)); replace Al := asd (Kd.V_elder' (by (with_reducible repeat (first | apply Kd.V_alloc | apply Kd.V_drewN | apply Kd.V_drew)); exact Al.out) (Kd.N_base Ak) hb); have Ae := asd (Kd.N_lower Ak (bsz1 HB Ab)); replace Ac := bB Ac hb; replace HB := bS1 HB Ab hb; clear hb Ak; obtain ⟨Ao11, co11, eo11⟩ := Kd.N_slice Ae.out; subst eo11) | ((with_reducible refine gate_callee (f := 16) rfl ?_); refine gl 13 Try.func16 #[.int .i64 a0, .agg #[.int .i64 Af, .int .i64 Ag, .int .i64 Ah], .slice Ao11 An.length co11] ?_; (with_reducible refine (impl_groupCode.calls _ _ _ _ _ _ _ _ _ _ ?side1 ?side2 A4.out).mono ?_); (case side1 => exact ks (Kd.N_reads' Ae.out).2.2); (case side2 => exact (Kd.N_reads' Ae.out).2.1); rintro e Ay ⟨rfl, hb⟩; refine ⟨_, rfl, ?_⟩; replace Al := asd (Kd.V_below (by (with_reducible repeat (first | apply Kd.V_alloc | apply Kd.V_drewN | apply Kd.V_drew)); exact Al.out) hb); replace Ae := asd (Kd.N_below (by (with_reducible repeat (first | apply Kd.N_alloc | apply Kd.N_drewN | apply Kd.N_drew)); exact Ae.out) hb); replace Ac := bB Ac hb; replace HB := bS1 HB Ab hb; (try clear hb)) | ((with_reducible refine gate_callee (f := 21) rfl ?_); refine gl 18 Try.func21 #[.slice A2 l2.length c2] ?_; (with_reducible refine (impl_shiftsOf.calls _ _ _ _ _ _ ?side1 ?side2 A6.out).mono ?_); (case side1 => exact ks (Kd.V_reads' Al.out).2.2); (case side2 => exact (Kd.V_reads' Al.out).2.1); rintro e Az ⟨v733, rfl, Ap, hb⟩; refine ⟨_, rfl, ?_⟩; replace Al := asd (Kd.V_elder' (by (with_reducible repeat (first | apply Kd.V_alloc | apply Kd.V_drewN | apply Kd.V_drew)); exact Al.out) (Kd.R_base Ap) hb); replace Ae := asd (Kd.N_elder' (by (with_reducible repeat (first | apply Kd.N_alloc | apply Kd.N_drewN | apply Kd.N_drew)); exact Ae.out) (Kd.R_base Ap) hb); have Ao := asd (Kd.R_lower (Kd.R_newM (M := fun k_ => (w.heap.size ≤ k_)) Ap (bsz1 HB Ab) (fun k_ h_ => h_)) (bsz1 HB Ab)); replace Ac := bB Ac hb; replace HB := bS1 HB Ab hb; (try clear hb); (try clear hb2); (try clear hk); (try clear hi); (try clear Ap)));go_ret2
 ·exact ⟨_, by first | rfl | (simp [errW_none, errW_some] <;> rfl) | (simp [*, errW_none, errW_some] <;> rfl), by (with_reducible repeat (first | apply Kd.R_alloc | apply Kd.R_drewN | apply Kd.R_drew)); exact Kd.R_mono Ao.out (fun _ hk => hk.1), bbw1 HB Ab⟩
 ·exact ⟨_, by first | rfl | (simp [errW_none, errW_some] <;> rfl) | (simp [*, errW_none, errW_some] <;> rfl), by first | exact Kd.R_nil _ _ _ _ _ | exact Kd.N_nil _ _ _ _ _ | exact Kd.V_nil _ _ _ _ _ | exact Kd.Q_nil _ _ _ _ _ | exact Kd.S_nil _ _ _ _ _, bbw1 HB Ab⟩
def spec_l06Shifts.l0 : Nat → List (S55) → List (S53) → Int → Option ((List (S53)))
 | 0, _, _, _ => none
 | k + 1, x0, x3, x4 => if x4 < (x0.length : Int) then (if 0 ≤ x4 then ((spec_l02Unit.f).bind fun Aj => (if (((qr x0 x4).f0.f0) == Aj.1 && (((qr x0 x4).f0.f1) == Aj.2.1 && (((qr x0 x4).f0.f2) == Aj.2.2.1 && (((qr x0 x4).f0.f3) == Aj.2.2.2)))) = true then (if x3.length < 8796093022208 then (spec_l06Shifts.l0 k x0 (x3 ++ [(⟨(qr x0 x4).f1.f0, (qr x0 x4).f1.f1⟩ : S53)]) (wrap64 (x4 + 1))) else (none)) else (spec_l06Shifts.l0 k x0 x3 (wrap64 (x4 + 1))))) else (none)) else (some x3)
def spec_l06Shifts.f (k : Nat) (l0 : List (S55)) : Option ((List (S53))) := spec_l06Shifts.l0 k l0 (([] : List (S53))) 0
theorem spec_l06Shifts.calls (k : Nat) (A0 : Option Addr) (c0 : Nat) (l0 : List (S55)) (r : List (S53)) (w : World) (hr0 : Kd.C k55 w A0 l0.length l0) (hc0 : l0.length ≤ c0) (h : spec_l06Shifts.f k l0 = some r) :
  Calls Try.prog 22 #[.slice A0 l0.length c0] w fun e w' => ∃ v0_ : Value, e = .returned (v0_) ∧ Kd.R k53 53 w' w.heap.size (fun _ => True) v0_ r ∧ Below w.heap.size w w' := by
 have hu51 := Try.underlying51
 have hu53 := Try.underlying53
 have HR0 := Aside0.mk hr0
 have AT := Aside0.mk hc0
 clear hr0 hc0
 have HB := asd (Below.refl w.heap.size w)
 have H : (spec_l06Shifts.l0 k l0 (([] : List (S53))) 0) = some r := h
 clear h
 obtain ⟨Ax, Ac⟩ : ∃ y_ : List (S53), y_ = (([] : List (S53))) := ⟨_, rfl⟩
 replace H : (spec_l06Shifts.l0 k l0 Ax 0) = some r := by first | (rw [Ac]; with_reducible exact H) | (have H2_ := (Option.bind_some _ _).symm.trans H; rw [Ac]; with_reducible exact H2_) | (have H2_ := (Option.bind_some _ _).symm.trans H; with_reducible exact H2_) | with_reducible exact H | (rw [Ac]; exact H) | exact H
 have Aw := Aside0.mk Ac
 clear Ac
 have H' := Aside0.mk H
 clear H
 go_enter Try.func22, Try.ntmps22
 go_wp2_with (first | ((with_reducible refine gd 5 rfl ?_); refine Kd.R_lit k53 _ 53 ?hg (N := 5) ?hd (xs := ([] : List (S53))) (inner := []) (ok := fun _ => True) (okp := fun _ => True) ?hr ?hp (fun _ hk => hk) trivial (Below.refl _ _) (Nat.le_refl _) (by simp) ?_; (case hd => rfl); (case hg => rfl); (case hr => first | (go_simp; done) | (go_simp; rfl)); (case hp => exact (Reps.none _ _)); intro v736 w2 Ay hb hg_ hnew_; clear hg_ hnew_; (first | rw [← Aw.out] at Ay | (simp only [Int.reduceToNat] at Ay; rw [← Aw.out] at Ay)); have Az := asd (Kd.R_lower Ay (bsz0 HB)); replace HB := bS0 HB hb; clear hb Ay))
 go_loopg [3, 4] k (fun kq v3 v4 w' => ∃ (Ae : List (S53)) (Aa : Int), v4 = .int .i64 Aa ∧ Aside0 (spec_l06Shifts.l0 kq l0 Ae Aa = some r) ∧ Aside0 (kq ≤ k) ∧ Aside0 (Kd.R k53 53 w' w.heap.size (fun _ => True) v3 Ae) ∧ Aside0 (Below w.heap.size w w'))
 case atStart => exact ⟨(Ax), (0), (by first | rfl | (simp; done) | (simp [*]; done)), H', ⟨Nat.le_refl _⟩, ⟨by (with_reducible repeat (first | apply Kd.R_alloc | apply Kd.R_drewN | apply Kd.R_drew)); exact Az.out⟩, ⟨bbw0 HB⟩⟩
 case round =>
  clear H';obtain ⟨Ae, Aa, rfl, HA, AD, Ab, HB⟩ := hrel;cases gk with
  | zero => exact absurd HA.out (by simp [spec_l06Shifts.l0])
  | succ k1 =>
   have H := HA.out;clear HA;simp only [spec_l06Shifts.l0] at H;by_cases c4 : Aa < (l0.length : Int)
   rw [if_pos c4] at H;have AK := qp c4;clear c4;by_cases c5 : 0 ≤ Aa
   rw [if_pos c5] at H;have AR := qp c5;clear c5;obtain ⟨⟨Af, Ag, Ah, Ai⟩, A6, H⟩ := ob H;try dsimp only at H
   by_cases c7 : (((qr l0 Aa).f0.f0) == Af && (((qr l0 Aa).f0.f1) == Ag && (((qr l0 Aa).f0.f2) == Ah && (((qr l0 Aa).f0.f3) == Ai)))) = true
   rw [if_pos c7] at H;have AL := c7;(try (have AM : decide (((qr l0 Aa).f0.f0) = Af && (((qr l0 Aa).f0.f1) == Ag && (((qr l0 Aa).f0.f2) == Ah && (((qr l0 Aa).f0.f3) == Ai)))) = true := by simpa using c7));(try (have AN : (((qr l0 Aa).f0.f0) == Af && (((qr l0 Aa).f0.f1) == Ag && (((qr l0 Aa).f0.f2) == Ah && (((qr l0 Aa).f0.f3) == Ai)))) = true := by simpa using c7));clear c7;by_cases c8 : Ae.length < 8796093022208
   rw [if_pos c8] at H;have AO := Aside0.mk c8;clear c8;obtain ⟨AA, Ad⟩ : ∃ y_ : List (S53), y_ = (Ae ++ [(⟨(qr l0 Aa).f1.f0, (qr l0 Aa).f1.f1⟩ : S53)]) := ⟨_, rfl⟩;replace H : (spec_l06Shifts.l0 k1 l0 AA (wrap64 (Aa + 1))) = some r := by first | (rw [Ad]; with_reducible exact H) | (have H2_ := (Option.bind_some _ _).symm.trans H; rw [Ad]; with_reducible exact H2_) | (have H2_ := (Option.bind_some _ _).symm.trans H; with_reducible exact H2_) | with_reducible exact H | (rw [Ad]; exact H) | exact H
   have AB := Aside0.mk Ad;clear Ad;have H' := Aside0.mk H;clear H;rotate_left
   ·rw [if_neg c8] at H;exact absurd H (by simp)
   rw [if_neg c7] at H;have AL : (((qr l0 Aa).f0.f0) == Af && (((qr l0 Aa).f0.f1) == Ag && (((qr l0 Aa).f0.f2) == Ah && (((qr l0 Aa).f0.f3) == Ai)))) = false := by simpa using c7
   (try (have AM : decide (((qr l0 Aa).f0.f0) = Af && (((qr l0 Aa).f0.f1) == Ag && (((qr l0 Aa).f0.f2) == Ah && (((qr l0 Aa).f0.f3) == Ai)))) = false := by simpa using c7));(try (have AN : (((qr l0 Aa).f0.f0) == Af && (((qr l0 Aa).f0.f1) == Ag && (((qr l0 Aa).f0.f2) == Ah && (((qr l0 Aa).f0.f3) == Ai)))) = false := by simpa using c7));(try (have AS : ¬ (((qr l0 Aa).f0.f0) = Af && (((qr l0 Aa).f0.f1) == Ag && (((qr l0 Aa).f0.f2) == Ah && (((qr l0 Aa).f0.f3) == Ai)))) := by simpa using c7));clear c7;have H' := Aside0.mk H;clear H;rotate_left
   ·rw [if_neg c5] at H;exact absurd H (by simp)
   rw [if_neg c4] at H;have AK := qq c4;clear c4;obtain rfl := Option.some.inj H;rotate_left;rotate_left 2
   ·go_wp2
    go_ret
    exact ⟨_, by first | rfl | (simp [errW_none, errW_some] <;> rfl) | (simp [*, errW_none, errW_some] <;> rfl), by (with_reducible repeat (first | apply Kd.R_alloc | apply Kd.R_drewN | apply Kd.R_drew)); exact Ab.out, bbw0 HB⟩
   all_goals
    try go_wp2
    replace Ab := asd (Kd.R_drew Ab.out);replace HB := asd (qm HB.out);obtain ⟨p738, q738, ad738, e738, Ak, Al, Am, An, Ao, Ap, Aq, Ar, As, At, Au, Av⟩ := at_T55w HR0.out HB Aa;cases e738
    refine sh 7 (ex6 HB Ak Al Am An Ao Ap) (fun hHeld => ?_);generalize wr.drew = w9 at Ab HB Aq Ar As At Au Av hHeld ⊢;refine pure_ (i := 0) (N := some 12) (v := ?_) (a' := ?_) (bT 7 1) rfl rfl (by kernel_rfl) (fun _ _ _ h => h) (Or.inl ⟨by rfl, ?_⟩) ?_ ?_;rotate_left
    ·intro w';go_simp;with_reducible rfl
    rotate_left
    ·simp only [Act.put, sA, sB, sC, i64_w, i32_w];rfl
    refine pure_ (i := 1) (N := some 13) (v := ?_) (a' := ?_) (bT 7 2) rfl rfl (by kernel_rfl) (fun _ _ _ h => h) (Or.inl ⟨by rfl, ?_⟩) ?_ ?_;rotate_left
    ·intro w';go_simp;with_reducible rfl
    rotate_left
    ·simp only [Act.put, sA, sB, sC, i64_w, i32_w];rfl
    refine pure_ (i := 2) (N := some 14) (v := ?_) (a' := ?_) (bT 7 3) rfl rfl (by kernel_rfl) (fun _ _ _ h => h) (Or.inl ⟨by rfl, ?_⟩) ?_ ?_;rotate_left
    ·intro w';go_simp;with_reducible rfl
    rotate_left
    ·simp only [Act.put, sA, sB, sC, i64_w, i32_w];rfl
    refine pure_ (i := 3) (N := some 15) (v := ?_) (a' := ?_) (bT 7 4) rfl rfl (by kernel_rfl) (fun _ _ _ h => h) (Or.inl ⟨by rfl, ?_⟩) ?_ ?_;rotate_left
    ·intro w';go_simp;with_reducible rfl
    rotate_left
    ·simp only [Act.put, sA, sB, sC, i64_w, i32_w];rfl
    refine take_ (i := 4) (N := some 16) (v := ?_) (a' := ?_) (bT 7 5) rfl rfl (by kernel_rfl) (fun _ _ _ h => h) (Or.inl ⟨by rfl, ?_⟩) hHeld ?_ ?_;rotate_left
    ·rintro w' ⟨s0, s1, s2, s3, s4, s5⟩;go_simp;with_reducible rfl
    rotate_left
    ·simp only [Act.put, sA, sB, sC, i64_w, i32_w];rfl
    refine one_ (i := 5) (N := some 17) (bT 7 6) rfl rfl (by kernel_rfl) (by decide) (fun K hK => ?_);refine gs Try.func41 #[] ?_;with_reducible refine (spec_l02Unit.calls _ _ _ _ _ A6.out).mono ?_
    rintro e AU ⟨rfl, hb⟩;refine ⟨_, rfl, ?_⟩;replace Ab := asd (Kd.R_below (kr Ab) hb);replace HB := bS0 HB hb;(try clear hb);(try clear hb2);(try clear hk);(try clear hi);refine hK.out _ _ (ex6 HB Ak Al Am An Ao Ap).out (fun hHeld => ?_);clear hK K;refine norm_ (a' := ?_) ?_ ?_;rotate_left
    ·show Act.put _ (some 17) _ = _
     simp only [Act.put, sA, sB, sC, i64_w, i32_w];rfl
    refine pure_ (i := 6) (N := some 18) (v := ?_) (a' := ?_) (bT 7 7) rfl rfl (by kernel_rfl) (fun _ _ _ h => h) (Or.inl ⟨by rfl, ?_⟩) ?_ ?_;rotate_left
    ·intro w';go_simp;with_reducible rfl
    rotate_left
    ·simp only [Act.put, sA, sB, sC, i64_w, i32_w];rfl
    refine done_ (by kernel_rfl) ?_
   ·obtain ⟨p743, q743, ad743, e743, AE, AF, AG, AH, AI, AJ⟩ := at_T55x HR0.out HB Aa;obtain rfl : ad738 = ad743 := (by injection e743);try go_wp2_with (first | ((with_reducible refine gate_builtin (b := .append) (xs := #[.tmp 19, .tmp 25]) rfl ?_); at_builtin; refine Kd.R_append k53 (w0 := w) w.heap.size rfl (.tmp 19) (.tmp 25) 32 53 (.agg #[(.int .i64 0), (.int .i64 0)]) 16 rfl Try.underlying32 info53 rfl (by decide) (by omega) u3 Ae (⟨(qr l0 Aa).f1.f0, (qr l0 Aa).f1.f1⟩ : S53) [.int .i64 ((qr l0 Aa).f1.f0), .int .i64 ((qr l0 Aa).f1.f1)] (fun _ => True) (fun _ => False) rfl rfl ?aP (fun _ hk => hk.elim) ?aF ?aO ?aB ?aS ?aL ?_; (case aP => exact k53_mkM _ _ _ (⟨(qr l0 Aa).f1.f0, (qr l0 Aa).f1.f1⟩ : S53)); (case aB => exact (bbw0 HB)); (case aF => exact (fun _ _ => trivial)); (case aO => exact (kr Ab)); (case aS => exact (bsz0 HB)); (case aL => have := AO.out; omega); intro v745 AV ho hb hg hat; rw [← AB.out] at ho; have AP := asd (hb); have AQ := asd (ho); clear HB; clear Ab; have HB := AP; have AC := AQ; clear AP AQ; clear ho hb hg hat))
    go_roundg k1
    case measure => have := AD.out; omega
    case rel => exact ⟨(AA), (wrap64 (Aa + 1)), (by first | rfl | (simp; done) | (simp [*]; done)), H', ⟨by have := AD.out; omega⟩, ⟨by (with_reducible repeat (first | apply Kd.R_alloc | apply Kd.R_drewN | apply Kd.R_drew)); exact AC.out⟩, ⟨bbw0 HB⟩⟩
   ·try go_wp2
    go_roundg k1
    case measure => have := AD.out; omega
    case rel => exact ⟨(Ae), (wrap64 (Aa + 1)), (by first | rfl | (simp; done) | (simp [*]; done)), H', ⟨by have := AD.out; omega⟩, ⟨by (with_reducible repeat (first | apply Kd.R_alloc | apply Kd.R_drewN | apply Kd.R_drew)); exact Ab.out⟩, ⟨bbw0 HB⟩⟩
def spec_ShiftsOf.f (k : Nat) (a0 : Int) (Ac : Int) (Ad : Int) (Ae : Int) (l2 : List (S55)) : Option ((List (S53)) × Int) := (spec_IsGroup.f k a0 Ac Ad Ae l2).bind fun Ag => ((spec_l06Code.f a0 Ac Ad Ae Ag).bind fun Ab => (if Ab = 0 then ((spec_l06Shifts.f k l2).bind fun Ah => (some (Ah, 0))) else (some (([] : List (S53)), Ab))))
def spec_ShiftsOf.T1 : Bool × List (List Nat × List Nat) := (true, [([], []), ([], []), ([], []), ([], []), ([], []), ([2, 3, 4], [2, 3, 4]), ([0, 1, 5, 5], [0, 1, 5]), ([6, 6, 0, 1, 2, 3, 4, 5, 6], [6])])
def spec_ShiftsOf.B1 : List Nat := [0, 0, 0, 0, 0, 28, 63, 127]
theorem spec_ShiftsOf.tab1 : rtab .any (opsOf Try.f9 1) = spec_ShiftsOf.T1 := by kernel_rfl
theorem spec_ShiftsOf.bits1 : waitsOk spec_ShiftsOf.T1.2 spec_ShiftsOf.B1 = true := by kernel_rfl
theorem spec_ShiftsOf.calls (k : Nat) (a0 : Int) (Ac : Int) (Ad : Int) (Ae : Int) (A2 : Option Addr) (c2 : Nat) (l2 : List (S55)) (r1 : List (S53)) (r2 : Int) (w : World) (hr2 : Kd.C k55 w A2 l2.length l2) (hc2 : l2.length ≤ c2) (h : spec_ShiftsOf.f k a0 Ac Ad Ae l2 = some (r1, r2)) :
  Calls Try.prog 9 #[.int .i64 a0, .agg #[.int .i64 Ac, .int .i64 Ad, .int .i64 Ae], .slice A2 l2.length c2] w fun e w' => ∃ v0_ : Value, e = .returned (.tuple #[v0_, .int .i64 r2]) ∧ Kd.R k53 53 w' w.heap.size (fun _ => True) v0_ r1 ∧ Below w.heap.size w w' := by
 have hu25 := Try.underlying25
 have HR2 := Aside0.mk hr2
 have Al := Aside0.mk hc2
 clear hr2 hc2
 have HB := asd (Below.refl w.heap.size w)
 have H : ((spec_IsGroup.f k a0 Ac Ad Ae l2).bind fun Ag => ((spec_l06Code.f a0 Ac Ad Ae Ag).bind fun Ab => (if Ab = 0 then ((spec_l06Shifts.f k l2).bind fun Ah => (some (Ah, 0))) else (some (([] : List (S53)), Ab))))) = some (r1, r2) := h
 clear h
 obtain ⟨Ag, A4, H⟩ := ob H
 try dsimp only at H
 obtain ⟨Ab, A5, H⟩ := ob H
 try dsimp only at H
 by_cases c6 : Ab = 0
 rw [if_pos c6] at H
 have Aj : (Ab == 0) = true := beq_iff_eq.mpr c6
 have Ak : (Ab != 0) = false := bne_eq_false_iff_eq.mpr c6
 clear c6
 obtain ⟨Ah, A7, H⟩ := ob H
 try dsimp only at H
 rotate_left
 rw [if_neg c6] at H
 have Aj : (Ab == 0) = false := beq_eq_false_iff_ne.mpr c6
 have Ak : (Ab != 0) = true := bne_iff_ne.mpr c6
 rotate_left
 all_goals
  simp only [Option.some.injEq, Prod.mk.injEq] at H;obtain ⟨rfl, rfl⟩ := H;go_enter Try.func9, Try.ntmps9
  try go_wp2_with (first | ((with_reducible refine gd 4 rfl ?_); refine bx #[.int .i64 Ac, .int .i64 Ad, .int .i64 Ae] 25 ?_; intro Am hg w8 Aa hb; have Af := ngw0 hg HB; replace HB := bS0 HB hb; clear hb hg))
  replace Aa := asd (blk_drew Aa.out);replace HB := asd (qm HB.out);refine sh 8 (eb3 Aa) (fun hHeld => ?_); refine with_tabW spec_ShiftsOf.tab1 spec_ShiftsOf.bits1 (fun HT_ HW_ => ?_);generalize w8.drew = w9 at Aa HB hHeld ⊢;refine pu 0 (some 9) (bT 8 1) HT_ ?_;refine pu 2 (some 11) (bs 8 5) HT_ ?_;refine pu 4 (some 13) (bs 8 21) HT_ ?_;refine ta 1 (some 10) (bs 8 23) HT_ HW_ hHeld ?_;refine ta 3 (some 12) (bT 8 5) HT_ HW_ hHeld ?_;refine ro 5 (some 14) (bT 8 6) HT_ (fun K hK => ?_);refine gs Try.func19 #[.int .i64 a0, .agg #[.int .i64 Ac, .int .i64 Ad, .int .i64 Ae], .slice A2 l2.length c2] ?_;with_reducible refine (spec_IsGroup.calls _ _ _ _ _ _ _ _ _ _ ?side1 ?side2 A4.out).mono ?_
  (case side1 => exact ks (Kd.C_below HR2.out HB.out))
  (case side2 => exact Al.out)
  rintro e Ao ⟨rfl, hb⟩;refine ⟨_, rfl, ?_⟩;replace Aa := bB Aa hb;replace HB := bS1 HB Af hb;(try clear hb);(try clear hb2);(try clear hk);(try clear hi);refine hK.out _ _ (eb3 Aa).out (fun hHeld => ?_);clear hK K;refine norm_ (a' := ?_) ?_ ?_;rotate_left
  ·show Act.put _ (some 14) _ = _
   simp only [Act.put, sA, sB, sC, i64_w, i32_w];rfl
  refine ro 6 (some 15) (bT 8 7) HT_ (fun K hK => ?_);refine gs Try.func18 #[.int .i64 a0, .agg #[.int .i64 Ac, .int .i64 Ad, .int .i64 Ae], .bool Ag] ?_;with_reducible refine (spec_l06Code.calls _ _ _ _ _ _ _ A5.out).mono ?_
  rintro e Ap ⟨rfl, hb⟩;refine ⟨_, rfl, ?_⟩;replace Aa := bB Aa hb;replace HB := bS1 HB Af hb;(try clear hb);(try clear hb2);(try clear hk);(try clear hi);refine hK.out _ _ (eb3 Aa).out (fun hHeld => ?_);clear hK K;refine norm_ (a' := ?_) ?_ ?_;rotate_left
  ·show Act.put _ (some 15) _ = _
   simp only [Act.put, sA, sB, sC, i64_w, i32_w];rfl
  refine pu 7 (some 8) (bT 8 8) HT_ ?_;refine done_ (done_of HT_.out (by kernel_rfl)) ?_
 ·try go_wp2_with (first | ((with_reducible refine gate_callee (f := 22) rfl ?_); refine gl 20 Try.func22 #[.slice A2 l2.length c2] ?_; (with_reducible refine (spec_l06Shifts.calls _ _ _ _ _ _ ?side1 ?side2 A7.out).mono ?_); (case side1 => exact ks (Kd.C_below HR2.out HB.out)); (case side2 => exact Al.out); rintro e Aq ⟨v751, rfl, An, hb⟩; refine ⟨_, rfl, ?_⟩; have Ai := asd (Kd.R_lower An (bsz1 HB Af)); replace Aa := bB Aa hb; replace HB := bS1 HB Af hb; (try clear hb); (try clear hb2); (try clear hk); (try clear hi); (try clear An)))
  go_ret2
  exact ⟨_, by first | rfl | (simp [errW_none, errW_some] <;> rfl) | (simp [*, errW_none, errW_some] <;> rfl), by (with_reducible repeat (first | apply Kd.R_alloc | apply Kd.R_drewN | apply Kd.R_drew)); exact Ai.out, bbw1 HB Af⟩
 ·try go_wp2
  go_ret2
  exact ⟨_, by first | rfl | (simp [errW_none, errW_some] <;> rfl) | (simp [*, errW_none, errW_some] <;> rfl), by first | exact Kd.R_nil _ _ _ _ _ | exact Kd.N_nil _ _ _ _ _ | exact Kd.V_nil _ _ _ _ _ | exact Kd.Q_nil _ _ _ _ _ | exact Kd.S_nil _ _ _ _ _, bbw1 HB Af⟩
def impl_Mat_det.f (Aa : Int) (Ab : Int) (Ac : Int) (Ad : Int) : Option (Int) := some (wrap64 ((wrap64 (Aa * Ad)) - (wrap64 (Ab * Ac))))
theorem impl_Mat_det.calls (Aa : Int) (Ab : Int) (Ac : Int) (Ad : Int) (r : Int) (w : World) (h : impl_Mat_det.f Aa Ab Ac Ad = some r) :
  Calls Try.prog 42 #[.agg #[.int .i64 Aa, .int .i64 Ab, .int .i64 Ac, .int .i64 Ad]] w fun e w' => e = .returned (.int .i64 r) ∧ Below w.heap.size w w' := by
 have hu51 := Try.underlying51
 have HB := asd (Below.refl w.heap.size w)
 have H : (some (wrap64 ((wrap64 (Aa * Ad)) - (wrap64 (Ab * Ac))))) = some r := h
 clear h
 obtain rfl := Option.some.inj H
 go_enter Try.func42, Try.ntmps42
 go_wp2_with (first | ((with_reducible refine gd 1 rfl ?_); refine bx #[.int .i64 Aa, .int .i64 Ab, .int .i64 Ac, .int .i64 Ad] 51 ?_; intro Ao hg w2 Ae hb; have Af := ngw0 hg HB; replace HB := bS0 HB hb; clear hb hg; obtain ⟨Ag, Ah, Ai, Aj, Ak, Al, Am, An⟩ := bz4 Ae))
 go_ret
 exact er (bbw1 HB Af)
mutual
def impl_Mat_order.j0 : Nat → Int → Bool → Int → Int → Int → Int → Option (Int)
 | 0, _, _, _, _, _, _ => none
 | k + 1, x3, Ch, Ad, Ae, Af, Ag => if Ch = true then (impl_Mat_order.j1 k x3 Ch Ad Ae Af Ag) else (impl_Mat_order.j1 k x3 (Ad == (-1) && (Ae == 0 && (Af == 0 && (Ag == (-1))))) Ad Ae Af Ag)
def impl_Mat_order.j1 : Nat → Int → Bool → Int → Int → Int → Int → Option (Int)
 | 0, _, _, _, _, _, _ => none
 | k + 1, x3, Ch, Ad, Ae, Af, Ag => if Ch = true then (some 2) else ((impl_Mat_det.f Ad Ae Af Ag).bind fun A8 => (if A8 = 1 then (impl_Mat_order.j2 k x3 (x3 == (-1)) Ad Ae Af Ag) else (impl_Mat_order.j2 k x3 false Ad Ae Af Ag)))
def impl_Mat_order.j2 : Nat → Int → Bool → Int → Int → Int → Int → Option (Int)
 | 0, _, _, _, _, _, _ => none
 | k + 1, x3, Cu, Ad, Ae, Af, Ag => if Cu = true then (some 3) else ((impl_Mat_det.f Ad Ae Af Ag).bind fun A9 => (if A9 = 1 then (impl_Mat_order.j3 k x3 (x3 == 0) Ad Ae Af Ag) else (impl_Mat_order.j3 k x3 false Ad Ae Af Ag)))
def impl_Mat_order.j3 : Nat → Int → Bool → Int → Int → Int → Int → Option (Int)
 | 0, _, _, _, _, _, _ => none
 | k + 1, x3, Cv, Ad, Ae, Af, Ag => if Cv = true then (some 4) else ((impl_Mat_det.f Ad Ae Af Ag).bind fun Ba => (if Ba = 1 then (if x3 = 1 then (some 6) else (some 0)) else (some 0)))
end
def impl_Mat_order.f (k : Nat) (Ab : Int) (Ah : Int) (Ai : Int) (Ac : Int) : Option (Int) := (impl_unit.f).bind fun Ak => (if (Ab == Ak.1 && (Ah == Ak.2.1 && (Ai == Ak.2.2.1 && (Ac == Ak.2.2.2)))) = true then (some 1) else ((impl_Mat_det.f Ab Ah Ai Ac).bind fun AK => (if AK = (-1) then (impl_Mat_order.j0 k (wrap64 (Ab + Ac)) ((wrap64 (Ab + Ac)) == 0) Ab Ah Ai Ac) else (impl_Mat_order.j0 k (wrap64 (Ab + Ac)) false Ab Ah Ai Ac))))
theorem impl_Mat_order.calls (k : Nat) (Ab : Int) (Ah : Int) (Ai : Int) (Ac : Int) (r : Int) (w : World) (h : impl_Mat_order.f k Ab Ah Ai Ac = some r) :
  Calls Try.prog 43 #[.agg #[.int .i64 Ab, .int .i64 Ah, .int .i64 Ai, .int .i64 Ac]] w fun e w' => e = .returned (.int .i64 r) ∧ Below w.heap.size w w' := by
 have hu51 := Try.underlying51
 have HB := asd (Below.refl w.heap.size w)
 have H : ((impl_unit.f).bind fun Ak => (if (Ab == Ak.1 && (Ah == Ak.2.1 && (Ai == Ak.2.2.1 && (Ac == Ak.2.2.2)))) = true then (some 1) else ((impl_Mat_det.f Ab Ah Ai Ac).bind fun AK => (if AK = (-1) then (impl_Mat_order.j0 k (wrap64 (Ab + Ac)) ((wrap64 (Ab + Ac)) == 0) Ab Ah Ai Ac) else (impl_Mat_order.j0 k (wrap64 (Ab + Ac)) false Ab Ah Ai Ac))))) = some r := h
 clear h
 obtain ⟨⟨Bb, Bc, Bd, Be⟩, A2, H⟩ := ob H
 try dsimp only at H
 by_cases c3 : (Ab == Bb && (Ah == Bc && (Ai == Bd && (Ac == Be)))) = true
 rw [if_pos c3] at H
 have Bx := c3
 (try (have By : decide (Ab = Bb && (Ah == Bc && (Ai == Bd && (Ac == Be)))) = true := by simpa using c3))
 (try (have Bz : (Ab == Bb && (Ah == Bc && (Ai == Bd && (Ac == Be)))) = true := by simpa using c3))
 clear c3
 obtain rfl := Option.some.inj H
 rotate_left
 rw [if_neg c3] at H
 have Bx : (Ab == Bb && (Ah == Bc && (Ai == Bd && (Ac == Be)))) = false := by simpa using c3
 (try (have By : decide (Ab = Bb && (Ah == Bc && (Ai == Bd && (Ac == Be)))) = false := by simpa using c3))
 (try (have Bz : (Ab == Bb && (Ah == Bc && (Ai == Bd && (Ac == Be)))) = false := by simpa using c3))
 (try (have Cw : ¬ (Ab = Bb && (Ah == Bc && (Ai == Bd && (Ac == Be)))) := by simpa using c3))
 clear c3
 rotate_left
 go_enter Try.func43, Try.ntmps43
 try go_wp2_with (first | ((with_reducible refine gd 1 rfl ?_); refine bx #[.int .i64 Ab, .int .i64 Ah, .int .i64 Ai, .int .i64 Ac] 51 ?_; intro A5 hg w4 Aa hb; have Aj := ngw0 hg HB; replace HB := bS0 HB hb; clear hb hg; obtain ⟨AL, AM, AN, AO, AP, AQ, AR, AS⟩ := bz4 Aa))
 rotate_left
 have Cr := Aside0.mk H
 clear H
 go_enter Try.func43, Try.ntmps43
 try go_wp2_with (first | ((with_reducible refine gd 1 rfl ?_); refine bx #[.int .i64 Ab, .int .i64 Ah, .int .i64 Ai, .int .i64 Ac] 51 ?_; intro A5 hg w4 Aa hb; have Aj := ngw0 hg HB; replace HB := bS0 HB hb; clear hb hg; obtain ⟨Al, Am, An, Ao, Ap, Aq, Ar, As⟩ := bz4 Aa))
 rotate_left
 all_goals
  replace Aa := asd (blk_drew Aa.out);replace HB := asd (qm HB.out);refine sh 4 (eb4 Aa) (fun hHeld => ?_);generalize w4.drew = w6 at Aa HB hHeld ⊢;refine take_ (i := 0) (N := some 10) (v := ?_) (a' := ?_) (bT 4 1) rfl rfl (by kernel_rfl) (fun _ _ _ h => h) (Or.inl ⟨by rfl, ?_⟩) hHeld ?_ ?_;rotate_left
  ·rintro w' ⟨s0, s1, s2, s3⟩;go_simp;with_reducible rfl
  rotate_left
  ·simp only [Act.put, sA, sB, sC, i64_w, i32_w];rfl
  refine one_ (i := 1) (N := some 11) (bT 4 2) rfl rfl (by kernel_rfl) (by decide) (fun K hK => ?_);refine gs Try.func40 #[] ?_;with_reducible refine (impl_unit.calls _ _ _ _ _ A2.out).mono ?_
  rintro e w7 ⟨rfl, hb⟩;refine ⟨_, rfl, ?_⟩;replace Aa := bB Aa hb;replace HB := bS1 HB Aj hb;(try clear hb);(try clear hb2);(try clear hk);(try clear hi);refine hK.out _ _ (eb4 Aa).out (fun hHeld => ?_);clear hK K;refine norm_ (a' := ?_) ?_ ?_;rotate_left
  ·show Act.put _ (some 11) _ = _
   simp only [Act.put, sA, sB, sC, i64_w, i32_w];rfl
  refine pure_ (i := 2) (N := some 12) (v := ?_) (a' := ?_) (bT 4 3) rfl rfl (by kernel_rfl) (fun _ _ _ h => h) (Or.inl ⟨by rfl, ?_⟩) ?_ ?_;rotate_left
  ·intro w';go_simp;with_reducible rfl
  rotate_left
  ·simp only [Act.put, sA, sB, sC, i64_w, i32_w];rfl
  refine pure_ (i := 3) (N := some 9) (v := ?_) (a' := ?_) (bT 4 4) rfl rfl (by kernel_rfl) (fun _ _ _ h => h) (Or.inl ⟨by rfl, ?_⟩) ?_ ?_;rotate_left
  ·intro w';go_simp;with_reducible rfl
  rotate_left
  ·simp only [Act.put, sA, sB, sC, i64_w, i32_w];rfl
  refine done_ (by kernel_rfl) ?_
 ·try go_wp2
  go_ret
  exact er (bbw1 HB Aj)
 ·go_upto_region 4 with (fail)
  go_cut [13] (fun v13 wc => ∃ (kq : Nat) (Bf : Bool), v13 = .bool Bf ∧ Aside0 (impl_Mat_order.j0 kq (wrap64 (Ab + Ac)) Bf Ab Ah Ai Ac = some r) ∧ Aside0 (kq ≤ k) ∧ Aside0 (wc.heap[A5]? = some (.cells #[.int .i64 Ab, .int .i64 Ah, .int .i64 Ai, .int .i64 Ac] 51 (0, 0))) ∧ Aside0 (Below w.heap.size w wc))
  case first =>
   have H := Cr.out;clear Cr;obtain ⟨AK, Cx, H⟩ := ob H;try dsimp only at H
   by_cases BA : AK = (-1)
   rw [if_pos BA] at H;have AJ : (AK == (-1)) = true := beq_iff_eq.mpr BA;have A6 : (AK != (-1)) = false := bne_eq_false_iff_eq.mpr BA;clear BA;rotate_left;rw [if_neg BA] at H;have AJ : (AK == (-1)) = false := beq_eq_false_iff_ne.mpr BA;have A6 : (AK != (-1)) = true := bne_iff_ne.mpr BA;rotate_left;all_goals
    (first | rw [AJ] | (simp only [i64_w, i32_w]; rw [AJ]) | skip)
    have H' := Aside0.mk H;clear H
   obtain ⟨At, Au, Av, Aw, Ax, Ay, Az, AA⟩ := bz4 Aa;rotate_left;obtain ⟨AB, AC, AD, AE, AF, AG, AH, AI⟩ := bz4 Aa;rotate_left;all_goals
    go_wp2_with (first | ((with_reducible refine gate_callee (f := 42) rfl ?_); refine gl 15 Try.func42 #[.agg #[.int .i64 Ab, .int .i64 Ah, .int .i64 Ai, .int .i64 Ac]] ?_; (with_reducible refine (impl_Mat_det.calls _ _ _ _ _ _ Cx.out).mono ?_); rintro e CE ⟨rfl, hb⟩; refine ⟨_, rfl, ?_⟩; replace Aa := bB Aa hb; replace HB := bS1 HB Aj hb; (try clear hb)));go_meet
   ·case rel => exact ⟨_, (((wrap64 (Ab + Ac)) == 0)), (by first | rfl | (simp; done) | (simp [*]; done)), H', ⟨by first | omega | exact Nat.le_refl _⟩, ⟨bkp Aa⟩, ⟨bbw1 HB Aj⟩⟩
   ·case rel => exact ⟨_, (false), (by first | rfl | (simp; done) | (simp [*]; done)), H', ⟨by first | omega | exact Nat.le_refl _⟩, ⟨bkp Aa⟩, ⟨bbw1 HB Aj⟩⟩
  case rest =>
   clear Cr;try clear c3
   try clear Bx
   try clear By
   try clear Bz
   try clear BA
   try clear AJ
   try clear A6
   try clear Al
   try clear Am
   try clear An
   try clear Ao
   try clear At
   try clear Au
   try clear Av
   try clear Aw
   try clear AB
   try clear AC
   try clear AD
   try clear AE
   try clear AL
   try clear AM
   try clear AN
   try clear AO
   try clear Ap
   try clear Aq
   try clear Ar
   try clear As
   try clear Ax
   try clear Ay
   try clear Az
   try clear AA
   try clear AF
   try clear AG
   try clear AH
   try clear AI
   try clear AP
   try clear AQ
   try clear AR
   try clear AS
   obtain ⟨kq, Bf, rfl, HA, B8, Aa, HB⟩ := hcut;cases kq with
   | zero => exact absurd HA.out (by simp [impl_Mat_order.j0])
   | succ Cy =>
    have H := HA.out;clear HA;simp only [impl_Mat_order.j0] at H;have BW := Aside0.mk H;clear H;go_upto_if 13 with (fail)
    go_cut [13] (fun v13 wc => ∃ (kq : Nat) (AT : Bool), v13 = .bool AT ∧ Aside0 (impl_Mat_order.j1 kq (wrap64 (Ab + Ac)) AT Ab Ah Ai Ac = some r) ∧ Aside0 (kq ≤ Cy) ∧ Aside0 (wc.heap[A5]? = some (.cells #[.int .i64 Ab, .int .i64 Ah, .int .i64 Ai, .int .i64 Ac] 51 (0, 0))) ∧ Aside0 (Below w.heap.size w wc))
    case first =>
     have H := BW.out;clear BW;by_cases BX : Bf = true
     ·subst BX;replace H := ifT H;have H' := Aside0.mk H;clear H;go_wp2
      go_meet
      case rel => exact ⟨_, (true), (by first | rfl | (simp; done) | (simp [*]; done)), H', ⟨by have := B8.out; first | omega | exact Nat.le_refl _⟩, ⟨bkp Aa⟩, ⟨bbw1 HB Aj⟩⟩
     ·replace BX := Bool.eq_false_iff.mpr BX;subst BX;replace H := ifF H;have H' := Aside0.mk H;clear H;obtain ⟨AU, AV, AW, AX, AY, AZ, A0, A1⟩ := bz4 Aa;go_wp2
      go_meet
      case rel => exact ⟨_, ((Ab == (-1) && (Ah == 0 && (Ai == 0 && (Ac == (-1)))))), (by first | rfl | (simp; done) | (simp [*]; done)), H', ⟨by have := B8.out; first | omega | exact Nat.le_refl _⟩, ⟨bkp Aa⟩, ⟨bbw1 HB Aj⟩⟩
    case rest =>
     clear BW;(try clear c3);(try clear Bx);(try clear By);(try clear Bz);(try clear BA);(try clear AJ);(try clear A6);(try clear BX);(try clear Al);(try clear Am);(try clear An);(try clear Ao);(try clear At);(try clear Au);(try clear Av);(try clear Aw);(try clear AB);(try clear AC);(try clear AD);(try clear AE);(try clear AU);(try clear AV);(try clear AW);(try clear AX);(try clear AL);(try clear AM);(try clear AN);(try clear AO);(try clear Ap);(try clear Aq);(try clear Ar);(try clear As);(try clear Ax);(try clear Ay);(try clear Az);(try clear AA);(try clear AF);(try clear AG);(try clear AH);(try clear AI);(try clear AY);(try clear AZ);(try clear A0);(try clear A1);(try clear AP);(try clear AQ);(try clear AR);(try clear AS);obtain ⟨kq, AT, rfl, HA, BC, Aa, HB⟩ := hcut;cases kq with
     | zero => exact absurd HA.out (by simp [impl_Mat_order.j1])
     | succ Cs =>
      have H := HA.out;clear HA;simp only [impl_Mat_order.j1] at H;by_cases Ca : AT = true
      ·subst Ca;replace H := ifT H;obtain rfl := Option.some.inj H;go_wp2
       go_ret
       exact er (bbw1 HB Aj)
      ·replace Ca := Bool.eq_false_iff.mpr Ca;subst Ca;replace H := ifF H;have BY := Aside0.mk H;clear H;go_upto_region 7 with (fail)
       go_cut [24] (fun v24 wc => ∃ (kq : Nat) (A3 : Bool), v24 = .bool A3 ∧ Aside0 (impl_Mat_order.j2 kq (wrap64 (Ab + Ac)) A3 Ab Ah Ai Ac = some r) ∧ Aside0 (kq ≤ Cs) ∧ Aside0 (wc.heap[A5]? = some (.cells #[.int .i64 Ab, .int .i64 Ah, .int .i64 Ai, .int .i64 Ac] 51 (0, 0))) ∧ Aside0 (Below w.heap.size w wc))
       case first =>
        have H := BY.out;clear BY;obtain ⟨A8, Cz, H⟩ := ob H;(try dsimp only at H);by_cases BD : A8 = 1
        rw [if_pos BD] at H;have A7 : (A8 == 1) = true := beq_iff_eq.mpr BD;have BB : (A8 != 1) = false := bne_eq_false_iff_eq.mpr BD;clear BD;rotate_left;rw [if_neg BD] at H;have A7 : (A8 == 1) = false := beq_eq_false_iff_ne.mpr BD;have BB : (A8 != 1) = true := bne_iff_ne.mpr BD;rotate_left;all_goals
         (first | rw [A7] | (simp only [i64_w, i32_w]; rw [A7]) | skip)
         have H' := Aside0.mk H;clear H
        obtain ⟨Bg, Bh, Bi, Bj, Bk, Bl, Bm, Bn⟩ := bz4 Aa;rotate_left;obtain ⟨Bo, Bp, Bq, Br, Bs, Bt, Bu, Bv⟩ := bz4 Aa;rotate_left;all_goals
         go_wp2_with (first | ((with_reducible refine gate_callee (f := 42) rfl ?_); refine gl 26 Try.func42 #[.agg #[.int .i64 Ab, .int .i64 Ah, .int .i64 Ai, .int .i64 Ac]] ?_; (with_reducible refine (impl_Mat_det.calls _ _ _ _ _ _ Cz.out).mono ?_); rintro e CF ⟨rfl, hb⟩; refine ⟨_, rfl, ?_⟩; replace Aa := bB Aa hb; replace HB := bS1 HB Aj hb; (try clear hb)));go_meet
        ·case rel => exact ⟨_, (((wrap64 (Ab + Ac)) == (-1))), (by first | rfl | (simp; done) | (simp [*]; done)), H', ⟨by have := B8.out; have := BC.out; first | omega | exact Nat.le_refl _⟩, ⟨bkp Aa⟩, ⟨bbw1 HB Aj⟩⟩
        ·case rel => exact ⟨_, (false), (by first | rfl | (simp; done) | (simp [*]; done)), H', ⟨by have := B8.out; have := BC.out; first | omega | exact Nat.le_refl _⟩, ⟨bkp Aa⟩, ⟨bbw1 HB Aj⟩⟩
       case rest =>
        clear BY;(try clear c3);(try clear Bx);(try clear By);(try clear Bz);(try clear BA);(try clear AJ);(try clear A6);(try clear BX);(try clear Ca);(try clear BD);(try clear A7);(try clear BB);(try clear Al);(try clear Am);(try clear An);(try clear Ao);(try clear At);(try clear Au);(try clear Av);(try clear Aw);(try clear AB);(try clear AC);(try clear AD);(try clear AE);(try clear AU);(try clear AV);(try clear AW);(try clear AX);(try clear Bg);(try clear Bh);(try clear Bi);(try clear Bj);(try clear Bo);(try clear Bp);(try clear Bq);(try clear Br);(try clear AL);(try clear AM);(try clear AN);(try clear AO);(try clear Ap);(try clear Aq);(try clear Ar);(try clear As);(try clear Ax);(try clear Ay);(try clear Az);(try clear AA);(try clear AF);(try clear AG);(try clear AH);(try clear AI);(try clear AY);(try clear AZ);(try clear A0);(try clear A1);(try clear Bk);(try clear Bl);(try clear Bm);(try clear Bn);(try clear Bs);(try clear Bt);(try clear Bu);(try clear Bv);(try clear AP);(try clear AQ);(try clear AR);(try clear AS);obtain ⟨kq, A3, rfl, HA, Cb, Aa, HB⟩ := hcut;cases kq with
        | zero => exact absurd HA.out (by simp [impl_Mat_order.j2])
        | succ Ct =>
         have H := HA.out;clear HA;simp only [impl_Mat_order.j2] at H;by_cases Cc : A3 = true
         ·subst Cc;replace H := ifT H;obtain rfl := Option.some.inj H;go_wp2
          go_ret
          exact er (bbw1 HB Aj)
         ·replace Cc := Bool.eq_false_iff.mpr Cc;subst Cc;replace H := ifF H;have BZ := Aside0.mk H;clear H;go_upto_region 9 with (fail)
          go_cut [32] (fun v32 wc => ∃ (kq : Nat) (A4 : Bool), v32 = .bool A4 ∧ Aside0 (impl_Mat_order.j3 kq (wrap64 (Ab + Ac)) A4 Ab Ah Ai Ac = some r) ∧ Aside0 (kq ≤ Ct) ∧ Aside0 (wc.heap[A5]? = some (.cells #[.int .i64 Ab, .int .i64 Ah, .int .i64 Ai, .int .i64 Ac] 51 (0, 0))) ∧ Aside0 (Below w.heap.size w wc))
          case first =>
           have H := BZ.out;clear BZ;obtain ⟨A9, CA, H⟩ := ob H;(try dsimp only at H);by_cases BU : A9 = 1
           rw [if_pos BU] at H;have Bw : (A9 == 1) = true := beq_iff_eq.mpr BU;have BV : (A9 != 1) = false := bne_eq_false_iff_eq.mpr BU;clear BU;rotate_left;rw [if_neg BU] at H;have Bw : (A9 == 1) = false := beq_eq_false_iff_ne.mpr BU;have BV : (A9 != 1) = true := bne_iff_ne.mpr BU;rotate_left;all_goals
            (first | rw [Bw] | (simp only [i64_w, i32_w]; rw [Bw]) | skip)
            have H' := Aside0.mk H;clear H
           obtain ⟨BE, BF, BG, BH, BI, BJ, BK, BL⟩ := bz4 Aa;rotate_left;obtain ⟨BM, BN, BO, BP, BQ, BR, BS, BT⟩ := bz4 Aa;rotate_left;all_goals
            go_wp2_with (first | ((with_reducible refine gate_callee (f := 42) rfl ?_); refine gl 34 Try.func42 #[.agg #[.int .i64 Ab, .int .i64 Ah, .int .i64 Ai, .int .i64 Ac]] ?_; (with_reducible refine (impl_Mat_det.calls _ _ _ _ _ _ CA.out).mono ?_); rintro e CG ⟨rfl, hb⟩; refine ⟨_, rfl, ?_⟩; replace Aa := bB Aa hb; replace HB := bS1 HB Aj hb; (try clear hb)));go_meet
           ·case rel => exact ⟨_, (((wrap64 (Ab + Ac)) == 0)), (by first | rfl | (simp; done) | (simp [*]; done)), H', ⟨by have := B8.out; have := BC.out; have := Cb.out; first | omega | exact Nat.le_refl _⟩, ⟨bkp Aa⟩, ⟨bbw1 HB Aj⟩⟩
           ·case rel => exact ⟨_, (false), (by first | rfl | (simp; done) | (simp [*]; done)), H', ⟨by have := B8.out; have := BC.out; have := Cb.out; first | omega | exact Nat.le_refl _⟩, ⟨bkp Aa⟩, ⟨bbw1 HB Aj⟩⟩
          case rest =>
           clear BZ;(try clear c3);(try clear Bx);(try clear By);(try clear Bz);(try clear BA);(try clear AJ);(try clear A6);(try clear BX);(try clear Ca);(try clear BD);(try clear A7);(try clear BB);(try clear Cc);(try clear BU);(try clear Bw);(try clear BV);(try clear Al);(try clear Am);(try clear An);(try clear Ao);(try clear At);(try clear Au);(try clear Av);(try clear Aw);(try clear AB);(try clear AC);(try clear AD);(try clear AE);(try clear AU);(try clear AV);(try clear AW);(try clear AX);(try clear Bg);(try clear Bh);(try clear Bi);(try clear Bj);(try clear Bo);(try clear Bp);(try clear Bq);(try clear Br);(try clear BE);(try clear BF);(try clear BG);(try clear BH);(try clear BM);(try clear BN);(try clear BO);(try clear BP);(try clear AL);(try clear AM);(try clear AN);(try clear AO);(try clear Ap);(try clear Aq);(try clear Ar);(try clear As);(try clear Ax);(try clear Ay);(try clear Az);(try clear AA);(try clear AF);(try clear AG);(try clear AH);(try clear AI);(try clear AY);(try clear AZ);(try clear A0);(try clear A1);(try clear Bk);(try clear Bl);(try clear Bm);(try clear Bn);(try clear Bs);(try clear Bt);(try clear Bu);(try clear Bv);(try clear BI);(try clear BJ);(try clear BK);(try clear BL);(try clear BQ);(try clear BR);(try clear BS);(try clear BT);(try clear AP);(try clear AQ);(try clear AR);(try clear AS);obtain ⟨kq, A4, rfl, HA, CB, Aa, HB⟩ := hcut;cases kq with
           | zero => exact absurd HA.out (by simp [impl_Mat_order.j3])
           | succ CC =>
            have H := HA.out;clear HA;simp only [impl_Mat_order.j3] at H;by_cases Ci : A4 = true
            subst Ci;replace H := ifT H;obtain rfl := Option.some.inj H;rotate_left;replace Ci := Bool.eq_false_iff.mpr Ci;subst Ci;replace H := ifF H;obtain ⟨Ba, CD, H⟩ := ob H;(try dsimp only at H);by_cases B0 : Ba = 1
            rw [if_pos B0] at H;have Cd : (Ba == 1) = true := beq_iff_eq.mpr B0;have Ce : (Ba != 1) = false := bne_eq_false_iff_eq.mpr B0;clear B0;by_cases B3 : (wrap64 (Ab + Ac)) = 1
            rw [if_pos B3] at H;have Cf : ((wrap64 (Ab + Ac)) == 1) = true := beq_iff_eq.mpr B3;have Cg : ((wrap64 (Ab + Ac)) != 1) = false := bne_eq_false_iff_eq.mpr B3;clear B3;obtain rfl := Option.some.inj H;rotate_left;rw [if_neg B3] at H;have Cf : ((wrap64 (Ab + Ac)) == 1) = false := beq_eq_false_iff_ne.mpr B3;have Cg : ((wrap64 (Ab + Ac)) != 1) = true := bne_iff_ne.mpr B3;obtain rfl := Option.some.inj H;rotate_left;rw [if_neg B0] at H;have Cd : (Ba == 1) = false := beq_eq_false_iff_ne.mpr B0;have Ce : (Ba != 1) = true := bne_iff_ne.mpr B0;obtain rfl := Option.some.inj H;rotate_left
            ·go_wp2
             go_ret
             exact er (bbw1 HB Aj)
            rotate_left 3;all_goals
             obtain ⟨Cj, Ck, Cl, Cm, Cn, Co, Cp, Cq⟩ := bz4 Aa;go_wp2_with (first | ((with_reducible refine gate_callee (f := 42) rfl ?_); refine gl 42 Try.func42 #[.agg #[.int .i64 Ab, .int .i64 Ah, .int .i64 Ai, .int .i64 Ac]] ?_; (with_reducible refine (impl_Mat_det.calls _ _ _ _ _ _ CD.out).mono ?_); rintro e CH ⟨rfl, hb⟩; refine ⟨_, rfl, ?_⟩; replace Aa := bB Aa hb; replace HB := bS1 HB Aj hb; (try clear hb)));go_ret
             exact er (bbw1 HB Aj)
end Go.Proofs.Ytedmadofpdkekaa.PA
