import Derived.Test.YtedmadofpdkekaaPAx0
import Derived.Test.YtedmadofpdkekaaPAx2
import Derived.Test.YtedmadofpdkekaaPAx5
import Derived.Test.YtedmadofpdkekaaPAx7
import Derived.Test.YtedmadofpdkekaaPAx12
import Derived.Test.YtedmadofpdkekaaPAx14
namespace Go.Proofs.Ytedmadofpdkekaa.PA
open Go.RowKit Go.Proofs.YtedmadofpdkekaaW.PrintWords Go.Proofs.YtedmadofpdkekaaW.PrintLast Go.Proofs.YtedmadofpdkekaaW.PrintMore
attribute [local go_sem] max2_int min2_int max_two min_two max_three min_three max_four min_four   -- for this text's walks alone
set_option linter.unusedVariables false
set_option maxHeartbeats 8000000
set_option maxRecDepth 100000
set_option linter.unusedSimpArgs false
attribute [local go_sem high] eqA51
def impl_groupCode.l0 : Nat → Int → List (List (S55)) → Int → Int → Int → Int → Int → Option (Int)
 | 0, _, _, _, _, _, _, _ => none
 | k + 1, x0, AF, AH, As, Ah, Ai, Aj => if As < AH then (if 0 ≤ As then (if As < (AF.length : Int) then ((impl_isGroup.f k x0 Ah Ai Aj (rd_L5 AF As)).bind fun Al => (if Al = true then (impl_groupCode.l0 k x0 AF AH (wrap64 (As + 1)) Ah Ai Aj) else (some 2))) else (none)) else (none)) else (some 0)
def impl_groupCode.f (k : Nat) (a0 : Int) (Ac : Int) (Ad : Int) (Ae : Int) (l2 : List (List (S55))) : Option (Int) := (impl_frameCode.f a0 Ac Ad Ae).bind fun Af => (if Af = 0 then (impl_groupCode.l0 k a0 l2 (l2.length : Int) 0 Ac Ad Ae) else (some Af))
theorem impl_groupCode.calls (k : Nat) (a0 : Int) (Ac : Int) (Ad : Int) (Ae : Int) (A2 : Option Addr) (c2 : Nat) (l2 : List (List (S55))) (r : Int) (w : World) (hr2 : Kd.C (Kd.slice 55 k55) w A2 l2.length l2) (hc2 : l2.length ≤ c2) (h : impl_groupCode.f k a0 Ac Ad Ae l2 = some r) :
  Calls Try.prog 16 #[.int .i64 a0, .agg #[.int .i64 Ac, .int .i64 Ad, .int .i64 Ae], .slice A2 l2.length c2] w fun e w' => e = .returned (.int .i64 r) ∧ Below w.heap.size w w' := by
 have hu25 := Try.underlying25
 have HR2 := Aside0.mk hr2
 have AM := Aside0.mk hc2
 clear hr2 hc2
 have HB := asd (Below.refl w.heap.size w)
 have H : ((impl_frameCode.f a0 Ac Ad Ae).bind fun Af => (if Af = 0 then (impl_groupCode.l0 k a0 l2 (l2.length : Int) 0 Ac Ad Ae) else (some Af))) = some r := h
 clear h
 obtain ⟨Af, A4, H⟩ := ob H
 try dsimp only at H
 by_cases c5 : Af = 0
 rw [if_pos c5] at H
 have At : (Af == 0) = true := beq_iff_eq.mpr c5
 have Au : (Af != 0) = false := bne_eq_false_iff_eq.mpr c5
 clear c5
 have H' := Aside0.mk H
 clear H
 rotate_left
 rw [if_neg c5] at H
 have At : (Af == 0) = false := beq_eq_false_iff_ne.mpr c5
 have Au : (Af != 0) = true := bne_iff_ne.mpr c5
 obtain rfl := Option.some.inj H
 rotate_left
 all_goals
  go_enter Try.func16, Try.ntmps16
  go_wp2_with (first | ((with_reducible refine gd 4 rfl ?_); refine bx #[.int .i64 Ac, .int .i64 Ad, .int .i64 Ae] 25 ?_; intro Av hg w6 Ab hb; have Ag := ngw0 hg HB; replace HB := bS0 HB hb; clear hb hg; obtain ⟨Am, An, Ao, Ap, Aq, Ar⟩ := bz3 Ab) | ((with_reducible refine gate_callee (f := 33) rfl ?_); refine gl 12 Try.func33 #[.int .i64 a0, .agg #[.int .i64 Ac, .int .i64 Ad, .int .i64 Ae]] ?_; (with_reducible refine (impl_frameCode.calls _ _ _ _ _ _ A4.out).mono ?_); rintro e w8 ⟨rfl, hb⟩; refine ⟨_, rfl, ?_⟩; replace Ab := bB Ab hb; replace HB := bS1 HB Ag hb; (try clear hb)))
 ·go_loopg [18] k (fun kq v18 w' => ∃ (Aa : Int), v18 = .int .i64 Aa ∧ Aside0 (impl_groupCode.l0 kq a0 l2 (l2.length : Int) Aa Ac Ad Ae = some r) ∧ Aside0 (kq ≤ k) ∧ Aside0 (w'.heap[Av]? = some (.cells #[.int .i64 Ac, .int .i64 Ad, .int .i64 Ae] 25 (0, 0))) ∧ Aside0 (Below w.heap.size w w'))
  case atStart => exact ⟨(0), (by first | rfl | (simp; done) | (simp [*]; done)), H', ⟨Nat.le_refl _⟩, ⟨bkp Ab⟩, ⟨bbw1 HB Ag⟩⟩
  case round =>
   clear H';try clear c2
   try clear c5
   try clear At
   try clear Au
   try clear Am
   try clear An
   try clear Ao
   try clear Ap
   try clear Aq
   try clear Ar
   obtain ⟨Aa, rfl, HA, AI, Ab, HB⟩ := hrel;cases gk with
   | zero => exact absurd HA.out (by simp [impl_groupCode.l0])
   | succ k1 =>
    have H := HA.out;clear HA;simp only [impl_groupCode.l0] at H;by_cases c9 : Aa < (l2.length : Int)
    rw [if_pos c9] at H;have AG := qp c9;clear c9;by_cases Aw : 0 ≤ Aa
    rw [if_pos Aw] at H;have AJ := qp Aw;clear Aw;by_cases Ax : Aa < (l2.length : Int)
    rw [if_pos Ax] at H;have AK := qp Ax;clear Ax;obtain ⟨Al, AL, H⟩ := ob H;(try dsimp only at H);by_cases Ay : Al = true
    subst Ay;replace H := ifT H;have H' := Aside0.mk H;clear H;rotate_left;replace Ay := Bool.eq_false_iff.mpr Ay;subst Ay;replace H := ifF H;obtain rfl := Option.some.inj H;rotate_left
    ·rw [if_neg Ax] at H;exact absurd H (by simp)
    ·rw [if_neg Aw] at H;exact absurd H (by simp)
    rw [if_neg c9] at H;have AG := qq c9;clear c9;obtain rfl := Option.some.inj H;rotate_left;rotate_left 2
    ·go_wp2
     go_ret
     exact er (bbw1 HB Ag)
    all_goals
     have p612 : 0 ≤ (Aa : Int) := od;have q612 : Aa < (l2.length : Int) := od;obtain ⟨ad612, A612_0, c612_0, e612, Ak, hl612_0, hi612_0⟩ := at_L5 HR2.out Aa p612 q612;cases e612
     replace Ak := xb HB Ak;have HR612_0 := Aside0.mk hi612_0;have HC612_0 := Aside0.mk hl612_0;clear hi612_0 hl612_0;replace p612 := eq_true p612;replace q612 := eq_true q612;obtain ⟨Az, AA, AB, AC, AD, AE⟩ := bz3 Ab;go_wp2_with (first | ((with_reducible refine gate_callee (f := 34) rfl ?_); refine gl 25 Try.func34 #[.int .i64 a0, .agg #[.int .i64 Ac, .int .i64 Ad, .int .i64 Ae], .slice A612_0 (rd_L5 l2 Aa).length c612_0] ?_; (with_reducible refine (impl_isGroup.calls _ _ _ _ _ _ _ _ _ _ ?side1 ?side2 AL.out).mono ?_); (case side1 => exact ks (Kd.C_below HR612_0.out HB.out)); (case side2 => exact HC612_0.out); rintro e AN ⟨rfl, hb⟩; refine ⟨_, rfl, ?_⟩; replace Ab := bB Ab hb; replace HB := bS1 HB Ag hb; (try clear hb)))
    ·go_roundg k1
     case measure => have := AI.out; omega
     case rel => exact ⟨(wrap64 (Aa + 1)), (by first | rfl | (simp; done) | (simp [*]; done)), H', ⟨by have := AI.out; omega⟩, ⟨bkp Ab⟩, ⟨bbw1 HB Ag⟩⟩
    ·go_ret
     exact er (bbw1 HB Ag)
 ·go_ret
  exact er (bbw1 HB Ag)
def impl_pointPart.l0 : Nat → List (S51) → List (S55) → Int → Int → Option ((List (S51)))
 | 0, _, _, _, _ => none
 | k + 1, x3, x7, x8, x9 => if x9 < x8 then (if 0 ≤ x9 then (if x9 < (x7.length : Int) then (if (x3.length : Int) = 0 then (if x3.length < 4398046511104 then (impl_pointPart.l0 k (x3 ++ [(⟨(qr x7 x9).f0.f0, (qr x7 x9).f0.f1, (qr x7 x9).f0.f2, (qr x7 x9).f0.f3⟩ : S51)]) x7 x8 (wrap64 (x9 + 1))) else (none)) else (if 0 ≤ (wrap64 ((x3.length : Int) - 1)) then (if (wrap64 ((x3.length : Int) - 1)) < (x3.length : Int) then (if (!(((rd_T51 x3 (wrap64 ((x3.length : Int) - 1))).f0) == ((qr x7 x9).f0.f0)) || (!(((rd_T51 x3 (wrap64 ((x3.length : Int) - 1))).f1) == ((qr x7 x9).f0.f1)) || (!(((rd_T51 x3 (wrap64 ((x3.length : Int) - 1))).f2) == ((qr x7 x9).f0.f2)) || (!(((rd_T51 x3 (wrap64 ((x3.length : Int) - 1))).f3) == ((qr x7 x9).f0.f3)))))) = true then (if x3.length < 4398046511104 then (impl_pointPart.l0 k (x3 ++ [(⟨(qr x7 x9).f0.f0, (qr x7 x9).f0.f1, (qr x7 x9).f0.f2, (qr x7 x9).f0.f3⟩ : S51)]) x7 x8 (wrap64 (x9 + 1))) else (none)) else (impl_pointPart.l0 k x3 x7 x8 (wrap64 (x9 + 1)))) else (none)) else (none))) else (none)) else (none)) else (some x3)
def impl_pointPart.f (k : Nat) (l0 : List (S55)) : Option ((List (S51))) := impl_pointPart.l0 k (([] : List (S51))) l0 (l0.length : Int) 0
theorem impl_pointPart.calls (k : Nat) (A0 : Option Addr) (c0 : Nat) (l0 : List (S55)) (r : List (S51)) (w : World) (hr0 : Kd.C k55 w A0 l0.length l0) (hc0 : l0.length ≤ c0) (h : impl_pointPart.f k l0 = some r) :
  Calls Try.prog 17 #[.slice A0 l0.length c0] w fun e w' => ∃ v0_ : Value, e = .returned (v0_) ∧ Kd.R k51 51 w' w.heap.size (fun _ => True) v0_ r ∧ Below w.heap.size w w' := by
 have hu55 := Try.underlying55
 have hu51 := Try.underlying51
 have HR0 := Aside0.mk hr0
 have Bv := Aside0.mk hc0
 clear hr0 hc0
 have HB := asd (Below.refl w.heap.size w)
 have H : (impl_pointPart.l0 k (([] : List (S51))) l0 (l0.length : Int) 0) = some r := h
 clear h
 obtain ⟨A6, AC⟩ : ∃ y_ : List (S51), y_ = (([] : List (S51))) := ⟨_, rfl⟩
 replace H : (impl_pointPart.l0 k A6 l0 (l0.length : Int) 0) = some r := by first | (rw [AC]; with_reducible exact H) | (have H2_ := (Option.bind_some _ _).symm.trans H; rw [AC]; with_reducible exact H2_) | (have H2_ := (Option.bind_some _ _).symm.trans H; with_reducible exact H2_) | with_reducible exact H | (rw [AC]; exact H) | exact H
 have AB := Aside0.mk AC
 clear AC
 have H' := Aside0.mk H
 clear H
 go_enter Try.func17, Try.ntmps17
 go_wp2_with (first | ((with_reducible refine gd 6 rfl ?_); (try (refine gate_guard (by rfl) ?_; dsimp only)); refine Kd.R_lit k51 _ 51 ?hg (N := 6) ?hd (xs := ([] : List (S51))) (inner := []) (ok := fun _ => True) (okp := fun _ => True) ?hr ?hp (fun _ hk => hk) trivial (Below.refl _ _) (Nat.le_refl _) (by simp) ?_; (case hd => rfl); (case hg => rfl); (case hr => first | (go_simp; done) | (go_simp; rfl)); (case hp => exact (Reps.none _ _)); intro v615 w2 AD hb hg_ hnew_; clear hg_ hnew_; (first | rw [← AB.out] at AD | (simp only [Int.reduceToNat] at AD; rw [← AB.out] at AD)); have AV := asd (Kd.R_lower AD (bsz0 HB)); replace HB := bS0 HB hb; clear hb AD))
 repeat (go_quiet (first | ((with_reducible refine gd 6 rfl ?_); (try (refine gate_guard (by rfl) ?_; dsimp only)); refine Kd.R_lit k51 _ 51 ?hg (N := 6) ?hd (xs := ([] : List (S51))) (inner := []) (ok := fun _ => True) (okp := fun _ => True) ?hr ?hp (fun _ hk => hk) trivial (Below.refl _ _) (Nat.le_refl _) (by simp) ?_; (case hd => rfl); (case hg => rfl); (case hr => first | (go_simp; done) | (go_simp; rfl)); (case hp => exact (Reps.none _ _)); intro v615 w2 AD hb hg_ hnew_; clear hg_ hnew_; (first | rw [← AB.out] at AD | (simp only [Int.reduceToNat] at AD; rw [← AB.out] at AD)); have AV := asd (Kd.R_lower AD (bsz0 HB)); replace HB := bS0 HB hb; clear hb AD)); try go_wp2_with (first | ((with_reducible refine gd 6 rfl ?_); (try (refine gate_guard (by rfl) ?_; dsimp only)); refine Kd.R_lit k51 _ 51 ?hg (N := 6) ?hd (xs := ([] : List (S51))) (inner := []) (ok := fun _ => True) (okp := fun _ => True) ?hr ?hp (fun _ hk => hk) trivial (Below.refl _ _) (Nat.le_refl _) (by simp) ?_; (case hd => rfl); (case hg => rfl); (case hr => first | (go_simp; done) | (go_simp; rfl)); (case hp => exact (Reps.none _ _)); intro v615 w2 AD hb hg_ hnew_; clear hg_ hnew_; (first | rw [← AB.out] at AD | (simp only [Int.reduceToNat] at AD; rw [← AB.out] at AD)); have AV := asd (Kd.R_lower AD (bsz0 HB)); replace HB := bS0 HB hb; clear hb AD)))
 go_loopg [3, 9] k (fun kq v3 v9 w' => ∃ (Ae : List (S51)) (Aa : Int), v9 = .int .i64 Aa ∧ Aside0 (impl_pointPart.l0 kq Ae l0 (l0.length : Int) Aa = some r) ∧ Aside0 (kq ≤ k) ∧ Aside0 (Kd.R k51 51 w' w.heap.size (fun _ => True) v3 Ae) ∧ Aside0 (Below w.heap.size w w'))
 case atStart => exact ⟨(A6), (0), (by first | rfl | (simp; done) | (simp [*]; done)), H', ⟨Nat.le_refl _⟩, ⟨by (with_reducible repeat (first | apply Kd.R_alloc | apply Kd.R_drewN | apply Kd.R_drew)); exact AV.out⟩, ⟨bbw0 HB⟩⟩
 case round =>
  clear H';obtain ⟨Ae, Aa, rfl, HA, A4, Ac, HB⟩ := hrel;cases gk with
  | zero => exact absurd HA.out (by simp [impl_pointPart.l0])
  | succ k1 =>
   have H := HA.out;clear HA;simp only [impl_pointPart.l0] at H;by_cases c4 : Aa < (l0.length : Int)
   rw [if_pos c4] at H;have Bk := qp c4;clear c4;by_cases c5 : 0 ≤ Aa
   rw [if_pos c5] at H;have Bs := qp c5;clear c5;by_cases c6 : Aa < (l0.length : Int)
   rw [if_pos c6] at H;have Bt := qp c6;clear c6;by_cases c7 : (Ae.length : Int) = 0
   rw [if_pos c7] at H;have Bl : ((Ae.length : Int) == 0) = true := beq_iff_eq.mpr c7;have Bm : ((Ae.length : Int) != 0) = false := bne_eq_false_iff_eq.mpr c7;clear c7;by_cases c8 : Ae.length < 4398046511104
   rw [if_pos c8] at H;have A3 := Aside0.mk c8;clear c8;obtain ⟨A7, AE⟩ : ∃ y_ : List (S51), y_ = (Ae ++ [(⟨(qr l0 Aa).f0.f0, (qr l0 Aa).f0.f1, (qr l0 Aa).f0.f2, (qr l0 Aa).f0.f3⟩ : S51)]) := ⟨_, rfl⟩;replace H : (impl_pointPart.l0 k1 A7 l0 (l0.length : Int) (wrap64 (Aa + 1))) = some r := by first | (rw [AE]; with_reducible exact H) | (have H2_ := (Option.bind_some _ _).symm.trans H; rw [AE]; with_reducible exact H2_) | (have H2_ := (Option.bind_some _ _).symm.trans H; with_reducible exact H2_) | with_reducible exact H | (rw [AE]; exact H) | exact H
   have AW := Aside0.mk AE;clear AE;have H' := Aside0.mk H;clear H;rotate_left
   ·rw [if_neg c8] at H;exact absurd H (by simp)
   rw [if_neg c7] at H;have Bl : ((Ae.length : Int) == 0) = false := beq_eq_false_iff_ne.mpr c7;have Bm : ((Ae.length : Int) != 0) = true := bne_iff_ne.mpr c7;have Bu : ¬ (Ae = []) := fun h_ => c7 (by rw [h_]; rfl);obtain ⟨Ak, AX⟩ : ∃ j_ : Int, (wrap64 ((Ae.length : Int) - 1)) = j_ := ⟨_, rfl⟩;replace H : (if 0 ≤ (Ak) then (if (Ak) < (Ae.length : Int) then (if (!(((rd_T51 Ae (Ak)).f0) == ((qr l0 Aa).f0.f0)) || (!(((rd_T51 Ae (Ak)).f1) == ((qr l0 Aa).f0.f1)) || (!(((rd_T51 Ae (Ak)).f2) == ((qr l0 Aa).f0.f2)) || (!(((rd_T51 Ae (Ak)).f3) == ((qr l0 Aa).f0.f3)))))) = true then (if Ae.length < 4398046511104 then (impl_pointPart.l0 k1 (Ae ++ [(⟨(qr l0 Aa).f0.f0, (qr l0 Aa).f0.f1, (qr l0 Aa).f0.f2, (qr l0 Aa).f0.f3⟩ : S51)]) l0 (l0.length : Int) (wrap64 (Aa + 1))) else (none)) else (impl_pointPart.l0 k1 Ae l0 (l0.length : Int) (wrap64 (Aa + 1)))) else (none)) else (none)) = some r := by first | (rw [AX] at H; first | done | exact H) | (simp only [AX] at H ⊢; exact H)
   have Bn : (IntKind.i64.wrap ((Ae.length : Int) - 1)) = Ak := (i64_w _).trans AX;by_cases Ba : 0 ≤ (Ak)
   rw [if_pos Ba] at H;have Bo := qp Ba;clear Ba;by_cases Bb : (Ak) < (Ae.length : Int)
   rw [if_pos Bb] at H;have Bp := qp Bb;clear Bb;by_cases A5 : (!(((rd_T51 Ae (Ak)).f0) == ((qr l0 Aa).f0.f0)) || (!(((rd_T51 Ae (Ak)).f1) == ((qr l0 Aa).f0.f1)) || (!(((rd_T51 Ae (Ak)).f2) == ((qr l0 Aa).f0.f2)) || (!(((rd_T51 Ae (Ak)).f3) == ((qr l0 Aa).f0.f3)))))) = true
   rw [if_pos A5] at H;have A8 := A5;clear A5;by_cases Bc : Ae.length < 4398046511104
   rw [if_pos Bc] at H;have AY := Aside0.mk Bc;clear Bc;obtain ⟨A9, AF⟩ : ∃ y_ : List (S51), y_ = (Ae ++ [(⟨(qr l0 Aa).f0.f0, (qr l0 Aa).f0.f1, (qr l0 Aa).f0.f2, (qr l0 Aa).f0.f3⟩ : S51)]) := ⟨_, rfl⟩;replace H : (impl_pointPart.l0 k1 A9 l0 (l0.length : Int) (wrap64 (Aa + 1))) = some r := by first | (rw [AF]; with_reducible exact H) | (have H2_ := (Option.bind_some _ _).symm.trans H; rw [AF]; with_reducible exact H2_) | (have H2_ := (Option.bind_some _ _).symm.trans H; with_reducible exact H2_) | with_reducible exact H | (rw [AF]; exact H) | exact H
   have AZ := Aside0.mk AF;clear AF;have H' := Aside0.mk H;clear H;rotate_left
   ·rw [if_neg Bc] at H;exact absurd H (by simp)
   rw [if_neg A5] at H;have A8 : (!(((rd_T51 Ae (Ak)).f0) == ((qr l0 Aa).f0.f0)) || (!(((rd_T51 Ae (Ak)).f1) == ((qr l0 Aa).f0.f1)) || (!(((rd_T51 Ae (Ak)).f2) == ((qr l0 Aa).f0.f2)) || (!(((rd_T51 Ae (Ak)).f3) == ((qr l0 Aa).f0.f3)))))) = false := by simpa using A5
   clear A5;have H' := Aside0.mk H;clear H;rotate_left
   ·rw [if_neg Bb] at H;exact absurd H (by simp)
   ·rw [if_neg Ba] at H;exact absurd H (by simp)
   ·rw [if_neg c6] at H;exact absurd H (by simp)
   ·rw [if_neg c5] at H;exact absurd H (by simp)
   rw [if_neg c4] at H;have Bk := qq c4;clear c4;obtain rfl := Option.some.inj H;rotate_left;rotate_left 3
   ·go_wp2
    repeat (go_quiet (fail); try go_wp2)
    go_ret
    exact ⟨_, by first | rfl | (simp [errW_none, errW_some] <;> rfl) | (simp [*, errW_none, errW_some] <;> rfl), by (with_reducible repeat (first | apply Kd.R_alloc | apply Kd.R_drewN | apply Kd.R_drew)); exact Ac.out, bbw0 HB⟩
   all_goals
    obtain ⟨p617, q617, ad617, e617, Bd, Be, Bf, Bg, Bh, Bi⟩ := at_T55x HR0.out HB Aa;cases e617
   ·go_wp2_with (first | ((with_reducible refine gd 5 rfl ?_); (try (refine gate_guard (by rfl) ?_; dsimp only)); refine bx #[.int .i64 0, .int .i64 0, .int .i64 0, .int .i64 0, .int .i64 0, .int .i64 0] 55 ?_; intro Ad hg w9 Ab hb; replace Ac := asd (Kd.R_below (kr Ac) hb); have Aj := ngw0 hg HB; replace HB := bS0 HB hb; clear hb hg; obtain ⟨AJ, AK, AL, AM, AN, AO, AP, AQ, AR, AS, AT, AU⟩ := bz6 Ab; obtain ⟨Ao11, co11, eo11⟩ := Kd.R_slice Ac.out; subst eo11) | ((with_reducible refine gate_builtin (b := .append) (xs := #[.tmp 27, .tmp 30]) rfl ?_); (try (refine gate_guard (by rfl) ?_; dsimp only)); at_builtin; refine Kd.R_append k51 (w0 := w) w.heap.size rfl (.tmp 27) (.tmp 30) 29 51 (.agg #[(.int .i64 0), (.int .i64 0), (.int .i64 0), (.int .i64 0)]) 32 rfl Try.underlying29 info51 rfl (by decide) (by omega) (.slice Ao11 Ae.length co11) Ae (⟨(qr l0 Aa).f0.f0, (qr l0 Aa).f0.f1, (qr l0 Aa).f0.f2, (qr l0 Aa).f0.f3⟩ : S51) [.int .i64 ((qr l0 Aa).f0.f0), .int .i64 ((qr l0 Aa).f0.f1), .int .i64 ((qr l0 Aa).f0.f2), .int .i64 ((qr l0 Aa).f0.f3)] (fun _ => True) (fun _ => False) rfl (by first | (go_simp; done) | (go_simp; rfl)) ?aP (fun _ hk => hk.elim) ?aF ?aO ?aB ?aS ?aL ?_; (case aP => exact k51_mkM _ _ _ (⟨(qr l0 Aa).f0.f0, (qr l0 Aa).f0.f1, (qr l0 Aa).f0.f2, (qr l0 Aa).f0.f3⟩ : S51)); (case aB => exact (bbw1 HB Aj)); (case aF => exact (fun _ _ => trivial)); (case aO => exact (by (with_reducible repeat (first | apply Kd.R_alloc | apply Kd.R_drewN | apply Kd.R_drew)); exact Kd.R_mono (rw6 (Kd.R_types Ac.out Ab.out (by decide))) (fun _ hk => trivial))); (case aS => exact (bsz1 HB Aj)); (case aL => have := A3.out; omega); intro v620 Bq ho hb hg hat; rw [← AW.out] at ho; have AG := asd (blk_grown (g := Ad) (o := .cells #[.int .i64 ((qr l0 Aa).f0.f0), .int .i64 ((qr l0 Aa).f0.f1), .int .i64 ((qr l0 Aa).f0.f2), .int .i64 ((qr l0 Aa).f0.f3), .int .i64 ((qr l0 Aa).f1.f0), .int .i64 ((qr l0 Aa).f1.f1)] 55 (0, 0)) (bq0 Ab) hg (Kd.R_ne Ac.out Ab.out (by decide))); have AH := asd (hb); have AI := asd (ho); clear Ab; clear HB; clear Ac; have Ab := AG; have HB := AH; have A1 := AI; clear AG AH AI; clear ho hb hg hat));repeat (go_quiet (first | ((with_reducible refine gd 5 rfl ?_); (try (refine gate_guard (by rfl) ?_; dsimp only)); refine bx #[.int .i64 0, .int .i64 0, .int .i64 0, .int .i64 0, .int .i64 0, .int .i64 0] 55 ?_; intro Ad hg w9 Ab hb; replace Ac := asd (Kd.R_below (kr Ac) hb); have Aj := ngw0 hg HB; replace HB := bS0 HB hb; clear hb hg; obtain ⟨AJ, AK, AL, AM, AN, AO, AP, AQ, AR, AS, AT, AU⟩ := bz6 Ab; obtain ⟨Ao11, co11, eo11⟩ := Kd.R_slice Ac.out; subst eo11) | ((with_reducible refine gate_builtin (b := .append) (xs := #[.tmp 27, .tmp 30]) rfl ?_); (try (refine gate_guard (by rfl) ?_; dsimp only)); at_builtin; refine Kd.R_append k51 (w0 := w) w.heap.size rfl (.tmp 27) (.tmp 30) 29 51 (.agg #[(.int .i64 0), (.int .i64 0), (.int .i64 0), (.int .i64 0)]) 32 rfl Try.underlying29 info51 rfl (by decide) (by omega) (.slice Ao11 Ae.length co11) Ae (⟨(qr l0 Aa).f0.f0, (qr l0 Aa).f0.f1, (qr l0 Aa).f0.f2, (qr l0 Aa).f0.f3⟩ : S51) [.int .i64 ((qr l0 Aa).f0.f0), .int .i64 ((qr l0 Aa).f0.f1), .int .i64 ((qr l0 Aa).f0.f2), .int .i64 ((qr l0 Aa).f0.f3)] (fun _ => True) (fun _ => False) rfl (by first | (go_simp; done) | (go_simp; rfl)) ?aP (fun _ hk => hk.elim) ?aF ?aO ?aB ?aS ?aL ?_; (case aP => exact k51_mkM _ _ _ (⟨(qr l0 Aa).f0.f0, (qr l0 Aa).f0.f1, (qr l0 Aa).f0.f2, (qr l0 Aa).f0.f3⟩ : S51)); (case aB => exact (bbw1 HB Aj)); (case aF => exact (fun _ _ => trivial)); (case aO => exact (by (with_reducible repeat (first | apply Kd.R_alloc | apply Kd.R_drewN | apply Kd.R_drew)); exact Kd.R_mono (rw6 (Kd.R_types Ac.out Ab.out (by decide))) (fun _ hk => trivial))); (case aS => exact (bsz1 HB Aj)); (case aL => have := A3.out; omega); intro v620 Bq ho hb hg hat; rw [← AW.out] at ho; have AG := asd (blk_grown (g := Ad) (o := .cells #[.int .i64 ((qr l0 Aa).f0.f0), .int .i64 ((qr l0 Aa).f0.f1), .int .i64 ((qr l0 Aa).f0.f2), .int .i64 ((qr l0 Aa).f0.f3), .int .i64 ((qr l0 Aa).f1.f0), .int .i64 ((qr l0 Aa).f1.f1)] 55 (0, 0)) (bq0 Ab) hg (Kd.R_ne Ac.out Ab.out (by decide))); have AH := asd (hb); have AI := asd (ho); clear Ab; clear HB; clear Ac; have Ab := AG; have HB := AH; have A1 := AI; clear AG AH AI; clear ho hb hg hat)); try go_wp2_with (first | ((with_reducible refine gd 5 rfl ?_); (try (refine gate_guard (by rfl) ?_; dsimp only)); refine bx #[.int .i64 0, .int .i64 0, .int .i64 0, .int .i64 0, .int .i64 0, .int .i64 0] 55 ?_; intro Ad hg w9 Ab hb; replace Ac := asd (Kd.R_below (kr Ac) hb); have Aj := ngw0 hg HB; replace HB := bS0 HB hb; clear hb hg; obtain ⟨AJ, AK, AL, AM, AN, AO, AP, AQ, AR, AS, AT, AU⟩ := bz6 Ab; obtain ⟨Ao11, co11, eo11⟩ := Kd.R_slice Ac.out; subst eo11) | ((with_reducible refine gate_builtin (b := .append) (xs := #[.tmp 27, .tmp 30]) rfl ?_); (try (refine gate_guard (by rfl) ?_; dsimp only)); at_builtin; refine Kd.R_append k51 (w0 := w) w.heap.size rfl (.tmp 27) (.tmp 30) 29 51 (.agg #[(.int .i64 0), (.int .i64 0), (.int .i64 0), (.int .i64 0)]) 32 rfl Try.underlying29 info51 rfl (by decide) (by omega) (.slice Ao11 Ae.length co11) Ae (⟨(qr l0 Aa).f0.f0, (qr l0 Aa).f0.f1, (qr l0 Aa).f0.f2, (qr l0 Aa).f0.f3⟩ : S51) [.int .i64 ((qr l0 Aa).f0.f0), .int .i64 ((qr l0 Aa).f0.f1), .int .i64 ((qr l0 Aa).f0.f2), .int .i64 ((qr l0 Aa).f0.f3)] (fun _ => True) (fun _ => False) rfl (by first | (go_simp; done) | (go_simp; rfl)) ?aP (fun _ hk => hk.elim) ?aF ?aO ?aB ?aS ?aL ?_; (case aP => exact k51_mkM _ _ _ (⟨(qr l0 Aa).f0.f0, (qr l0 Aa).f0.f1, (qr l0 Aa).f0.f2, (qr l0 Aa).f0.f3⟩ : S51)); (case aB => exact (bbw1 HB Aj)); (case aF => exact (fun _ _ => trivial)); (case aO => exact (by (with_reducible repeat (first | apply Kd.R_alloc | apply Kd.R_drewN | apply Kd.R_drew)); exact Kd.R_mono (rw6 (Kd.R_types Ac.out Ab.out (by decide))) (fun _ hk => trivial))); (case aS => exact (bsz1 HB Aj)); (case aL => have := A3.out; omega); intro v620 Bq ho hb hg hat; rw [← AW.out] at ho; have AG := asd (blk_grown (g := Ad) (o := .cells #[.int .i64 ((qr l0 Aa).f0.f0), .int .i64 ((qr l0 Aa).f0.f1), .int .i64 ((qr l0 Aa).f0.f2), .int .i64 ((qr l0 Aa).f0.f3), .int .i64 ((qr l0 Aa).f1.f0), .int .i64 ((qr l0 Aa).f1.f1)] 55 (0, 0)) (bq0 Ab) hg (Kd.R_ne Ac.out Ab.out (by decide))); have AH := asd (hb); have AI := asd (ho); clear Ab; clear HB; clear Ac; have Ab := AG; have HB := AH; have A1 := AI; clear AG AH AI; clear ho hb hg hat)))
    go_roundg k1
    case measure => have := A4.out; omega
    case rel => exact ⟨(A7), (wrap64 (Aa + 1)), (by first | rfl | (simp; done) | (simp [*]; done)), H', ⟨by have := A4.out; omega⟩, ⟨by (with_reducible repeat (first | apply Kd.R_alloc | apply Kd.R_drewN | apply Kd.R_drew)); exact A1.out⟩, ⟨bbw1 HB Aj⟩⟩
   rotate_left 2;all_goals
    go_wp2_with (first | ((with_reducible refine gd 5 rfl ?_); (try (refine gate_guard (by rfl) ?_; dsimp only)); refine bx #[.int .i64 0, .int .i64 0, .int .i64 0, .int .i64 0, .int .i64 0, .int .i64 0] 55 ?_; intro Ad hg Bj Ab hb; replace Ac := asd (Kd.R_below (kr Ac) hb); have Aj := ngw0 hg HB; replace HB := bS0 HB hb; clear hb hg; obtain ⟨Al, Am, An, Ao, Ap, Aq, Ar, As, At, Au, Av, Aw⟩ := bz6 Ab; obtain ⟨Ao20, co20, eo20⟩ := Kd.R_slice Ac.out; subst eo20; have p622 : 0 ≤ ((Ak) : Int) := od; have q622 : (Ak) < (Ae.length : Int) := od; obtain ⟨ad622, e622, Af, Ag, Ah, Ai⟩ := at_T51 (Kd.R_reads' Ac.out).2.2 (Ak) p622 q622; cases e622; have hn622_0 : ad622.block ≠ Ad := Kd.own_blk (Kd.R_ne Ac.out Ab.out (by decide)); have hn622_1 : ad622.block ≠ Ad := Kd.own_blk (Kd.R_ne Ac.out Ab.out (by decide)); have hn622_2 : ad622.block ≠ Ad := Kd.own_blk (Kd.R_ne Ac.out Ab.out (by decide)); have hn622_3 : ad622.block ≠ Ad := Kd.own_blk (Kd.R_ne Ac.out Ab.out (by decide)); have hn622_4 : ad622.block ≠ Ad := Kd.own_blk (Kd.R_ne Ac.out Ab.out (by decide)); have hn622_5 : ad622.block ≠ Ad := Kd.own_blk (Kd.R_ne Ac.out Ab.out (by decide)); replace Af := cw6 (.int .i64 ((qr l0 Aa).f0.f0)) (.int .i64 ((qr l0 Aa).f0.f1)) (.int .i64 ((qr l0 Aa).f0.f2)) (.int .i64 ((qr l0 Aa).f0.f3)) (.int .i64 ((qr l0 Aa).f1.f0)) (.int .i64 ((qr l0 Aa).f1.f1)) hn622_0 Af; replace Ag := cw6 (.int .i64 ((qr l0 Aa).f0.f0)) (.int .i64 ((qr l0 Aa).f0.f1)) (.int .i64 ((qr l0 Aa).f0.f2)) (.int .i64 ((qr l0 Aa).f0.f3)) (.int .i64 ((qr l0 Aa).f1.f0)) (.int .i64 ((qr l0 Aa).f1.f1)) hn622_0 Ag; replace Ah := cw6 (.int .i64 ((qr l0 Aa).f0.f0)) (.int .i64 ((qr l0 Aa).f0.f1)) (.int .i64 ((qr l0 Aa).f0.f2)) (.int .i64 ((qr l0 Aa).f0.f3)) (.int .i64 ((qr l0 Aa).f1.f0)) (.int .i64 ((qr l0 Aa).f1.f1)) hn622_0 Ah; replace Ai := cw6 (.int .i64 ((qr l0 Aa).f0.f0)) (.int .i64 ((qr l0 Aa).f0.f1)) (.int .i64 ((qr l0 Aa).f0.f2)) (.int .i64 ((qr l0 Aa).f0.f3)) (.int .i64 ((qr l0 Aa).f1.f0)) (.int .i64 ((qr l0 Aa).f1.f1)) hn622_0 Ai; (try have Ax := dw6 Af); (try have Ay := dw6 Ag); (try have Az := dw6 Ah); (try have AA := dw6 Ai); clear hn622_0; clear hn622_1; clear hn622_2; clear hn622_3; clear hn622_4; clear hn622_5; replace p622 := eq_true p622; replace q622 := eq_true q622) | ((with_reducible refine gate_builtin (b := .append) (xs := #[.tmp 27, .tmp 30]) rfl ?_); (try (refine gate_guard (by rfl) ?_; dsimp only)); at_builtin; refine Kd.R_append k51 (w0 := w) w.heap.size rfl (.tmp 27) (.tmp 30) 29 51 (.agg #[(.int .i64 0), (.int .i64 0), (.int .i64 0), (.int .i64 0)]) 32 rfl Try.underlying29 info51 rfl (by decide) (by omega) (.slice (some ad622) Ae.length co20) Ae (⟨(qr l0 Aa).f0.f0, (qr l0 Aa).f0.f1, (qr l0 Aa).f0.f2, (qr l0 Aa).f0.f3⟩ : S51) [.int .i64 ((qr l0 Aa).f0.f0), .int .i64 ((qr l0 Aa).f0.f1), .int .i64 ((qr l0 Aa).f0.f2), .int .i64 ((qr l0 Aa).f0.f3)] (fun _ => True) (fun _ => False) rfl (by first | (go_simp; done) | (go_simp; rfl)) ?aP (fun _ hk => hk.elim) ?aF ?aO ?aB ?aS ?aL ?_; (case aP => exact k51_mkM _ _ _ (⟨(qr l0 Aa).f0.f0, (qr l0 Aa).f0.f1, (qr l0 Aa).f0.f2, (qr l0 Aa).f0.f3⟩ : S51)); (case aB => exact (bbw1 HB Aj)); (case aF => exact (fun _ _ => trivial)); (case aO => exact (by (with_reducible repeat (first | apply Kd.R_alloc | apply Kd.R_drewN | apply Kd.R_drew)); exact Kd.R_mono (rw6 (Kd.R_types Ac.out Ab.out (by decide))) (fun _ hk => trivial))); (case aS => exact (bsz1 HB Aj)); (case aL => have := AY.out; omega); intro v624 Br ho hb hg hat; rw [← AZ.out] at ho; have AG := asd (blk_grown (g := Ad) (o := .cells #[.int .i64 ((qr l0 Aa).f0.f0), .int .i64 ((qr l0 Aa).f0.f1), .int .i64 ((qr l0 Aa).f0.f2), .int .i64 ((qr l0 Aa).f0.f3), .int .i64 ((qr l0 Aa).f1.f0), .int .i64 ((qr l0 Aa).f1.f1)] 55 (0, 0)) (bq0 Ab) hg (Kd.R_ne Ac.out Ab.out (by decide))); have AH := asd (hb); have AI := asd (ho); clear Ab; clear HB; clear Ac; have Ab := AG; have HB := AH; have A2 := AI; clear AG AH AI; clear ho hb hg hat))
   ·repeat (go_quiet (first | ((with_reducible refine gd 5 rfl ?_); (try (refine gate_guard (by rfl) ?_; dsimp only)); refine bx #[.int .i64 0, .int .i64 0, .int .i64 0, .int .i64 0, .int .i64 0, .int .i64 0] 55 ?_; intro Ad hg Bj Ab hb; replace Ac := asd (Kd.R_below (kr Ac) hb); have Aj := ngw0 hg HB; replace HB := bS0 HB hb; clear hb hg; obtain ⟨Al, Am, An, Ao, Ap, Aq, Ar, As, At, Au, Av, Aw⟩ := bz6 Ab; obtain ⟨Ao20, co20, eo20⟩ := Kd.R_slice Ac.out; subst eo20; have p622 : 0 ≤ ((Ak) : Int) := od; have q622 : (Ak) < (Ae.length : Int) := od; obtain ⟨ad622, e622, Af, Ag, Ah, Ai⟩ := at_T51 (Kd.R_reads' Ac.out).2.2 (Ak) p622 q622; cases e622; have hn622_0 : ad622.block ≠ Ad := Kd.own_blk (Kd.R_ne Ac.out Ab.out (by decide)); have hn622_1 : ad622.block ≠ Ad := Kd.own_blk (Kd.R_ne Ac.out Ab.out (by decide)); have hn622_2 : ad622.block ≠ Ad := Kd.own_blk (Kd.R_ne Ac.out Ab.out (by decide)); have hn622_3 : ad622.block ≠ Ad := Kd.own_blk (Kd.R_ne Ac.out Ab.out (by decide)); have hn622_4 : ad622.block ≠ Ad := Kd.own_blk (Kd.R_ne Ac.out Ab.out (by decide)); have hn622_5 : ad622.block ≠ Ad := Kd.own_blk (Kd.R_ne Ac.out Ab.out (by decide)); replace Af := cw6 (.int .i64 ((qr l0 Aa).f0.f0)) (.int .i64 ((qr l0 Aa).f0.f1)) (.int .i64 ((qr l0 Aa).f0.f2)) (.int .i64 ((qr l0 Aa).f0.f3)) (.int .i64 ((qr l0 Aa).f1.f0)) (.int .i64 ((qr l0 Aa).f1.f1)) hn622_0 Af; replace Ag := cw6 (.int .i64 ((qr l0 Aa).f0.f0)) (.int .i64 ((qr l0 Aa).f0.f1)) (.int .i64 ((qr l0 Aa).f0.f2)) (.int .i64 ((qr l0 Aa).f0.f3)) (.int .i64 ((qr l0 Aa).f1.f0)) (.int .i64 ((qr l0 Aa).f1.f1)) hn622_0 Ag; replace Ah := cw6 (.int .i64 ((qr l0 Aa).f0.f0)) (.int .i64 ((qr l0 Aa).f0.f1)) (.int .i64 ((qr l0 Aa).f0.f2)) (.int .i64 ((qr l0 Aa).f0.f3)) (.int .i64 ((qr l0 Aa).f1.f0)) (.int .i64 ((qr l0 Aa).f1.f1)) hn622_0 Ah; replace Ai := cw6 (.int .i64 ((qr l0 Aa).f0.f0)) (.int .i64 ((qr l0 Aa).f0.f1)) (.int .i64 ((qr l0 Aa).f0.f2)) (.int .i64 ((qr l0 Aa).f0.f3)) (.int .i64 ((qr l0 Aa).f1.f0)) (.int .i64 ((qr l0 Aa).f1.f1)) hn622_0 Ai; (try have Ax := dw6 Af); (try have Ay := dw6 Ag); (try have Az := dw6 Ah); (try have AA := dw6 Ai); clear hn622_0; clear hn622_1; clear hn622_2; clear hn622_3; clear hn622_4; clear hn622_5; replace p622 := eq_true p622; replace q622 := eq_true q622) | ((with_reducible refine gate_builtin (b := .append) (xs := #[.tmp 27, .tmp 30]) rfl ?_); (try (refine gate_guard (by rfl) ?_; dsimp only)); at_builtin; refine Kd.R_append k51 (w0 := w) w.heap.size rfl (.tmp 27) (.tmp 30) 29 51 (.agg #[(.int .i64 0), (.int .i64 0), (.int .i64 0), (.int .i64 0)]) 32 rfl Try.underlying29 info51 rfl (by decide) (by omega) (.slice (some ad622) Ae.length co20) Ae (⟨(qr l0 Aa).f0.f0, (qr l0 Aa).f0.f1, (qr l0 Aa).f0.f2, (qr l0 Aa).f0.f3⟩ : S51) [.int .i64 ((qr l0 Aa).f0.f0), .int .i64 ((qr l0 Aa).f0.f1), .int .i64 ((qr l0 Aa).f0.f2), .int .i64 ((qr l0 Aa).f0.f3)] (fun _ => True) (fun _ => False) rfl (by first | (go_simp; done) | (go_simp; rfl)) ?aP (fun _ hk => hk.elim) ?aF ?aO ?aB ?aS ?aL ?_; (case aP => exact k51_mkM _ _ _ (⟨(qr l0 Aa).f0.f0, (qr l0 Aa).f0.f1, (qr l0 Aa).f0.f2, (qr l0 Aa).f0.f3⟩ : S51)); (case aB => exact (bbw1 HB Aj)); (case aF => exact (fun _ _ => trivial)); (case aO => exact (by (with_reducible repeat (first | apply Kd.R_alloc | apply Kd.R_drewN | apply Kd.R_drew)); exact Kd.R_mono (rw6 (Kd.R_types Ac.out Ab.out (by decide))) (fun _ hk => trivial))); (case aS => exact (bsz1 HB Aj)); (case aL => have := AY.out; omega); intro v624 Br ho hb hg hat; rw [← AZ.out] at ho; have AG := asd (blk_grown (g := Ad) (o := .cells #[.int .i64 ((qr l0 Aa).f0.f0), .int .i64 ((qr l0 Aa).f0.f1), .int .i64 ((qr l0 Aa).f0.f2), .int .i64 ((qr l0 Aa).f0.f3), .int .i64 ((qr l0 Aa).f1.f0), .int .i64 ((qr l0 Aa).f1.f1)] 55 (0, 0)) (bq0 Ab) hg (Kd.R_ne Ac.out Ab.out (by decide))); have AH := asd (hb); have AI := asd (ho); clear Ab; clear HB; clear Ac; have Ab := AG; have HB := AH; have A2 := AI; clear AG AH AI; clear ho hb hg hat)); try go_wp2_with (first | ((with_reducible refine gd 5 rfl ?_); (try (refine gate_guard (by rfl) ?_; dsimp only)); refine bx #[.int .i64 0, .int .i64 0, .int .i64 0, .int .i64 0, .int .i64 0, .int .i64 0] 55 ?_; intro Ad hg Bj Ab hb; replace Ac := asd (Kd.R_below (kr Ac) hb); have Aj := ngw0 hg HB; replace HB := bS0 HB hb; clear hb hg; obtain ⟨Al, Am, An, Ao, Ap, Aq, Ar, As, At, Au, Av, Aw⟩ := bz6 Ab; obtain ⟨Ao20, co20, eo20⟩ := Kd.R_slice Ac.out; subst eo20; have p622 : 0 ≤ ((Ak) : Int) := od; have q622 : (Ak) < (Ae.length : Int) := od; obtain ⟨ad622, e622, Af, Ag, Ah, Ai⟩ := at_T51 (Kd.R_reads' Ac.out).2.2 (Ak) p622 q622; cases e622; have hn622_0 : ad622.block ≠ Ad := Kd.own_blk (Kd.R_ne Ac.out Ab.out (by decide)); have hn622_1 : ad622.block ≠ Ad := Kd.own_blk (Kd.R_ne Ac.out Ab.out (by decide)); have hn622_2 : ad622.block ≠ Ad := Kd.own_blk (Kd.R_ne Ac.out Ab.out (by decide)); have hn622_3 : ad622.block ≠ Ad := Kd.own_blk (Kd.R_ne Ac.out Ab.out (by decide)); have hn622_4 : ad622.block ≠ Ad := Kd.own_blk (Kd.R_ne Ac.out Ab.out (by decide)); have hn622_5 : ad622.block ≠ Ad := Kd.own_blk (Kd.R_ne Ac.out Ab.out (by decide)); replace Af := cw6 (.int .i64 ((qr l0 Aa).f0.f0)) (.int .i64 ((qr l0 Aa).f0.f1)) (.int .i64 ((qr l0 Aa).f0.f2)) (.int .i64 ((qr l0 Aa).f0.f3)) (.int .i64 ((qr l0 Aa).f1.f0)) (.int .i64 ((qr l0 Aa).f1.f1)) hn622_0 Af; replace Ag := cw6 (.int .i64 ((qr l0 Aa).f0.f0)) (.int .i64 ((qr l0 Aa).f0.f1)) (.int .i64 ((qr l0 Aa).f0.f2)) (.int .i64 ((qr l0 Aa).f0.f3)) (.int .i64 ((qr l0 Aa).f1.f0)) (.int .i64 ((qr l0 Aa).f1.f1)) hn622_0 Ag; replace Ah := cw6 (.int .i64 ((qr l0 Aa).f0.f0)) (.int .i64 ((qr l0 Aa).f0.f1)) (.int .i64 ((qr l0 Aa).f0.f2)) (.int .i64 ((qr l0 Aa).f0.f3)) (.int .i64 ((qr l0 Aa).f1.f0)) (.int .i64 ((qr l0 Aa).f1.f1)) hn622_0 Ah; replace Ai := cw6 (.int .i64 ((qr l0 Aa).f0.f0)) (.int .i64 ((qr l0 Aa).f0.f1)) (.int .i64 ((qr l0 Aa).f0.f2)) (.int .i64 ((qr l0 Aa).f0.f3)) (.int .i64 ((qr l0 Aa).f1.f0)) (.int .i64 ((qr l0 Aa).f1.f1)) hn622_0 Ai; (try have Ax := dw6 Af); (try have Ay := dw6 Ag); (try have Az := dw6 Ah); (try have AA := dw6 Ai); clear hn622_0; clear hn622_1; clear hn622_2; clear hn622_3; clear hn622_4; clear hn622_5; replace p622 := eq_true p622; replace q622 := eq_true q622) | ((with_reducible refine gate_builtin (b := .append) (xs := #[.tmp 27, .tmp 30]) rfl ?_); (try (refine gate_guard (by rfl) ?_; dsimp only)); at_builtin; refine Kd.R_append k51 (w0 := w) w.heap.size rfl (.tmp 27) (.tmp 30) 29 51 (.agg #[(.int .i64 0), (.int .i64 0), (.int .i64 0), (.int .i64 0)]) 32 rfl Try.underlying29 info51 rfl (by decide) (by omega) (.slice (some ad622) Ae.length co20) Ae (⟨(qr l0 Aa).f0.f0, (qr l0 Aa).f0.f1, (qr l0 Aa).f0.f2, (qr l0 Aa).f0.f3⟩ : S51) [.int .i64 ((qr l0 Aa).f0.f0), .int .i64 ((qr l0 Aa).f0.f1), .int .i64 ((qr l0 Aa).f0.f2), .int .i64 ((qr l0 Aa).f0.f3)] (fun _ => True) (fun _ => False) rfl (by first | (go_simp; done) | (go_simp; rfl)) ?aP (fun _ hk => hk.elim) ?aF ?aO ?aB ?aS ?aL ?_; (case aP => exact k51_mkM _ _ _ (⟨(qr l0 Aa).f0.f0, (qr l0 Aa).f0.f1, (qr l0 Aa).f0.f2, (qr l0 Aa).f0.f3⟩ : S51)); (case aB => exact (bbw1 HB Aj)); (case aF => exact (fun _ _ => trivial)); (case aO => exact (by (with_reducible repeat (first | apply Kd.R_alloc | apply Kd.R_drewN | apply Kd.R_drew)); exact Kd.R_mono (rw6 (Kd.R_types Ac.out Ab.out (by decide))) (fun _ hk => trivial))); (case aS => exact (bsz1 HB Aj)); (case aL => have := AY.out; omega); intro v624 Br ho hb hg hat; rw [← AZ.out] at ho; have AG := asd (blk_grown (g := Ad) (o := .cells #[.int .i64 ((qr l0 Aa).f0.f0), .int .i64 ((qr l0 Aa).f0.f1), .int .i64 ((qr l0 Aa).f0.f2), .int .i64 ((qr l0 Aa).f0.f3), .int .i64 ((qr l0 Aa).f1.f0), .int .i64 ((qr l0 Aa).f1.f1)] 55 (0, 0)) (bq0 Ab) hg (Kd.R_ne Ac.out Ab.out (by decide))); have AH := asd (hb); have AI := asd (ho); clear Ab; clear HB; clear Ac; have Ab := AG; have HB := AH; have A2 := AI; clear AG AH AI; clear ho hb hg hat)))
    go_roundg k1
    case measure => have := A4.out; omega
    case rel => exact ⟨(A9), (wrap64 (Aa + 1)), (by first | rfl | (simp; done) | (simp [*]; done)), H', ⟨by have := A4.out; omega⟩, ⟨by (with_reducible repeat (first | apply Kd.R_alloc | apply Kd.R_drewN | apply Kd.R_drew)); exact A2.out⟩, ⟨bbw1 HB Aj⟩⟩
   ·repeat (go_quiet (first | ((with_reducible refine gd 5 rfl ?_); (try (refine gate_guard (by rfl) ?_; dsimp only)); refine bx #[.int .i64 0, .int .i64 0, .int .i64 0, .int .i64 0, .int .i64 0, .int .i64 0] 55 ?_; intro Ad hg Bj Ab hb; replace Ac := asd (Kd.R_below (kr Ac) hb); have Aj := ngw0 hg HB; replace HB := bS0 HB hb; clear hb hg; obtain ⟨Al, Am, An, Ao, Ap, Aq, Ar, As, At, Au, Av, Aw⟩ := bz6 Ab; obtain ⟨Ao20, co20, eo20⟩ := Kd.R_slice Ac.out; subst eo20; have p622 : 0 ≤ ((Ak) : Int) := od; have q622 : (Ak) < (Ae.length : Int) := od; obtain ⟨ad622, e622, Af, Ag, Ah, Ai⟩ := at_T51 (Kd.R_reads' Ac.out).2.2 (Ak) p622 q622; cases e622; have hn622_0 : ad622.block ≠ Ad := Kd.own_blk (Kd.R_ne Ac.out Ab.out (by decide)); have hn622_1 : ad622.block ≠ Ad := Kd.own_blk (Kd.R_ne Ac.out Ab.out (by decide)); have hn622_2 : ad622.block ≠ Ad := Kd.own_blk (Kd.R_ne Ac.out Ab.out (by decide)); have hn622_3 : ad622.block ≠ Ad := Kd.own_blk (Kd.R_ne Ac.out Ab.out (by decide)); have hn622_4 : ad622.block ≠ Ad := Kd.own_blk (Kd.R_ne Ac.out Ab.out (by decide)); have hn622_5 : ad622.block ≠ Ad := Kd.own_blk (Kd.R_ne Ac.out Ab.out (by decide)); replace Af := cw6 (.int .i64 ((qr l0 Aa).f0.f0)) (.int .i64 ((qr l0 Aa).f0.f1)) (.int .i64 ((qr l0 Aa).f0.f2)) (.int .i64 ((qr l0 Aa).f0.f3)) (.int .i64 ((qr l0 Aa).f1.f0)) (.int .i64 ((qr l0 Aa).f1.f1)) hn622_0 Af; replace Ag := cw6 (.int .i64 ((qr l0 Aa).f0.f0)) (.int .i64 ((qr l0 Aa).f0.f1)) (.int .i64 ((qr l0 Aa).f0.f2)) (.int .i64 ((qr l0 Aa).f0.f3)) (.int .i64 ((qr l0 Aa).f1.f0)) (.int .i64 ((qr l0 Aa).f1.f1)) hn622_0 Ag; replace Ah := cw6 (.int .i64 ((qr l0 Aa).f0.f0)) (.int .i64 ((qr l0 Aa).f0.f1)) (.int .i64 ((qr l0 Aa).f0.f2)) (.int .i64 ((qr l0 Aa).f0.f3)) (.int .i64 ((qr l0 Aa).f1.f0)) (.int .i64 ((qr l0 Aa).f1.f1)) hn622_0 Ah; replace Ai := cw6 (.int .i64 ((qr l0 Aa).f0.f0)) (.int .i64 ((qr l0 Aa).f0.f1)) (.int .i64 ((qr l0 Aa).f0.f2)) (.int .i64 ((qr l0 Aa).f0.f3)) (.int .i64 ((qr l0 Aa).f1.f0)) (.int .i64 ((qr l0 Aa).f1.f1)) hn622_0 Ai; (try have Ax := dw6 Af); (try have Ay := dw6 Ag); (try have Az := dw6 Ah); (try have AA := dw6 Ai); clear hn622_0; clear hn622_1; clear hn622_2; clear hn622_3; clear hn622_4; clear hn622_5; replace p622 := eq_true p622; replace q622 := eq_true q622)); try go_wp2_with (first | ((with_reducible refine gd 5 rfl ?_); (try (refine gate_guard (by rfl) ?_; dsimp only)); refine bx #[.int .i64 0, .int .i64 0, .int .i64 0, .int .i64 0, .int .i64 0, .int .i64 0] 55 ?_; intro Ad hg Bj Ab hb; replace Ac := asd (Kd.R_below (kr Ac) hb); have Aj := ngw0 hg HB; replace HB := bS0 HB hb; clear hb hg; obtain ⟨Al, Am, An, Ao, Ap, Aq, Ar, As, At, Au, Av, Aw⟩ := bz6 Ab; obtain ⟨Ao20, co20, eo20⟩ := Kd.R_slice Ac.out; subst eo20; have p622 : 0 ≤ ((Ak) : Int) := od; have q622 : (Ak) < (Ae.length : Int) := od; obtain ⟨ad622, e622, Af, Ag, Ah, Ai⟩ := at_T51 (Kd.R_reads' Ac.out).2.2 (Ak) p622 q622; cases e622; have hn622_0 : ad622.block ≠ Ad := Kd.own_blk (Kd.R_ne Ac.out Ab.out (by decide)); have hn622_1 : ad622.block ≠ Ad := Kd.own_blk (Kd.R_ne Ac.out Ab.out (by decide)); have hn622_2 : ad622.block ≠ Ad := Kd.own_blk (Kd.R_ne Ac.out Ab.out (by decide)); have hn622_3 : ad622.block ≠ Ad := Kd.own_blk (Kd.R_ne Ac.out Ab.out (by decide)); have hn622_4 : ad622.block ≠ Ad := Kd.own_blk (Kd.R_ne Ac.out Ab.out (by decide)); have hn622_5 : ad622.block ≠ Ad := Kd.own_blk (Kd.R_ne Ac.out Ab.out (by decide)); replace Af := cw6 (.int .i64 ((qr l0 Aa).f0.f0)) (.int .i64 ((qr l0 Aa).f0.f1)) (.int .i64 ((qr l0 Aa).f0.f2)) (.int .i64 ((qr l0 Aa).f0.f3)) (.int .i64 ((qr l0 Aa).f1.f0)) (.int .i64 ((qr l0 Aa).f1.f1)) hn622_0 Af; replace Ag := cw6 (.int .i64 ((qr l0 Aa).f0.f0)) (.int .i64 ((qr l0 Aa).f0.f1)) (.int .i64 ((qr l0 Aa).f0.f2)) (.int .i64 ((qr l0 Aa).f0.f3)) (.int .i64 ((qr l0 Aa).f1.f0)) (.int .i64 ((qr l0 Aa).f1.f1)) hn622_0 Ag; replace Ah := cw6 (.int .i64 ((qr l0 Aa).f0.f0)) (.int .i64 ((qr l0 Aa).f0.f1)) (.int .i64 ((qr l0 Aa).f0.f2)) (.int .i64 ((qr l0 Aa).f0.f3)) (.int .i64 ((qr l0 Aa).f1.f0)) (.int .i64 ((qr l0 Aa).f1.f1)) hn622_0 Ah; replace Ai := cw6 (.int .i64 ((qr l0 Aa).f0.f0)) (.int .i64 ((qr l0 Aa).f0.f1)) (.int .i64 ((qr l0 Aa).f0.f2)) (.int .i64 ((qr l0 Aa).f0.f3)) (.int .i64 ((qr l0 Aa).f1.f0)) (.int .i64 ((qr l0 Aa).f1.f1)) hn622_0 Ai; (try have Ax := dw6 Af); (try have Ay := dw6 Ag); (try have Az := dw6 Ah); (try have AA := dw6 Ai); clear hn622_0; clear hn622_1; clear hn622_2; clear hn622_3; clear hn622_4; clear hn622_5; replace p622 := eq_true p622; replace q622 := eq_true q622)))
    go_roundg k1
    case measure => have := A4.out; omega
    case rel => exact ⟨(Ae), (wrap64 (Aa + 1)), (by first | rfl | (simp; done) | (simp [*]; done)), H', ⟨by have := A4.out; omega⟩, ⟨by (with_reducible repeat (first | apply Kd.R_alloc | apply Kd.R_drewN | apply Kd.R_drew)); exact Kd.R_mono (rw6 (Kd.R_types Ac.out Ab.out (by decide))) (fun _ hk => trivial)⟩, ⟨bbw1 HB Aj⟩⟩
def impl_PointPart.f (k : Nat) (a0 : Int) (Af : Int) (Ag : Int) (Ah : Int) (l2 : List (S55)) : Option ((List (S51)) × Int) := (impl_groupCode.f k a0 Af Ag Ah (([l2] : List (List (S55))))).bind fun Aa => (if Aa = 0 then ((impl_pointPart.f k l2).bind fun Aj => (some (Aj, 0))) else (some (([] : List (S51)), Aa)))
theorem impl_PointPart.calls (k : Nat) (a0 : Int) (Af : Int) (Ag : Int) (Ah : Int) (P2_ : Nat → Prop) (A2 : Option Addr) (c2 : Nat) (l2 : List (S55)) (r1 : List (S51)) (r2 : Int) (w : World) (hs2 : Kd.V k55 55 w w.heap.size (fun k_ => P2_ k_) (.slice A2 l2.length c2) l2) (h : impl_PointPart.f k a0 Af Ag Ah l2 = some (r1, r2)) :
  Calls Try.prog 6 #[.int .i64 a0, .agg #[.int .i64 Af, .int .i64 Ag, .int .i64 Ah], .slice A2 l2.length c2] w fun e w' => ∃ v0_ : Value, e = .returned (.tuple #[v0_, .int .i64 r2]) ∧ Kd.R k51 51 w' w.heap.size (fun k_ => (w.heap.size ≤ k_)) v0_ r1 ∧ Below w.heap.size w w' := by
 have hu25 := Try.underlying25
 have Al := asd (show Kd.V k55 55 w w.heap.size (fun k_ => (P2_ k_ ∨ w.heap.size ≤ k_)) (.slice A2 l2.length c2) l2 from Kd.V_mono hs2 (fun k_ hk => .inl hk))
 have HB := asd (Below.refl w.heap.size w)
 have H : ((impl_groupCode.f k a0 Af Ag Ah (([l2] : List (List (S55))))).bind fun Aa => (if Aa = 0 then ((impl_pointPart.f k l2).bind fun Aj => (some (Aj, 0))) else (some (([] : List (S51)), Aa)))) = some (r1, r2) := h
 clear h
 obtain ⟨An, Ai⟩ : ∃ y_ : List (List (S55)), y_ = (([l2] : List (List (S55)))) := ⟨_, rfl⟩
 replace H : ((impl_groupCode.f k a0 Af Ag Ah An).bind fun Aa => (if Aa = 0 then ((impl_pointPart.f k l2).bind fun Aj => (some (Aj, 0))) else (some (([] : List (S51)), Aa)))) = some (r1, r2) := by first | (rw [Ai]; with_reducible exact H) | (have H2_ := (Option.bind_some _ _).symm.trans H; rw [Ai]; with_reducible exact H2_) | (have H2_ := (Option.bind_some _ _).symm.trans H; with_reducible exact H2_) | with_reducible exact H | (rw [Ai]; exact H) | exact H
 have Am := Aside0.mk Ai
 clear Ai
 obtain ⟨Aa, A4, H⟩ := ob H
 try dsimp only at H
 by_cases c5 : Aa = 0
 rw [if_pos c5] at H
 have Aq : (Aa == 0) = true := beq_iff_eq.mpr c5
 have Ar : (Aa != 0) = false := bne_eq_false_iff_eq.mpr c5
 clear c5
 obtain ⟨Aj, A6, H⟩ := ob H
 try dsimp only at H
 rotate_left
 rw [if_neg c5] at H
 have Aq : (Aa == 0) = false := beq_eq_false_iff_ne.mpr c5
 have Ar : (Aa != 0) = true := bne_iff_ne.mpr c5
 rotate_left
 all_goals
  simp only [Option.some.injEq, Prod.mk.injEq] at H;obtain ⟨rfl, rfl⟩ := H;go_enter Try.func6, Try.ntmps6
  go_wp2_with (first | ((with_reducible refine gd 4 rfl ?_); refine bx #[.int .i64 Af, .int .i64 Ag, .int .i64 Ah] 25 ?_; intro Ad hg w7 Ac hb; replace Al := asd (Kd.V_below (Kd.V_elderB (by (with_reducible repeat (first | apply Kd.V_alloc | apply Kd.V_drewN | apply Kd.V_drew)); exact Al.out) Ad (Nat.le_of_eq hg.symm)) hb); have Ab := ngw0 hg HB; replace HB := bS0 HB hb; clear hb hg; obtain ⟨As, At, Au, Av, Aw, Ax⟩ := bz3 Ac) | ((with_reducible refine gd 12 rfl ?_); refine Kd.N_lit (Kd.slice 55 k55) _ 26 ?hg (N' := 12) ?hd (xs := ([l2] : List (List (S55)))) (inner := [.slice A2 l2.length c2]) (ok := (fun k_ => (P2_ k_ ∨ w.heap.size ≤ k_) ∧ k_ ≠ Ad)) (okp := (fun k_ => (P2_ k_ ∨ w.heap.size ≤ k_) ∧ k_ ≠ Ad)) ?hr ?hp (fun _ hk => hk) ((show ∀ k_, w7.heap.size ≤ k_ → (fun k_ => (P2_ k_ ∨ w.heap.size ≤ k_) ∧ k_ ≠ Ad) k_ from fun k_ hk => ⟨(.inr (Nat.le_trans (bsz1 HB Ab) hk)), Kd.freshB (g := Ad) (o := .cells #[.int .i64 Af, .int .i64 Ag, .int .i64 Ah] 25 (0, 0)) (bkp Ac) k_ hk⟩) _ (Nat.le_refl _)) (Below.refl _ _) (Nat.le_refl _) (by simp) ?_; (case hd => rfl); (case hg => rfl); (case hr => first | (go_simp; done) | (go_simp; rfl)); (case hp => exact (Reps.one (show Kd.FK (Kd.slice 55 k55) _ _ l2 [.slice A2 l2.length c2] from (Kd.FK_slice_mk (Kd.V_reads' (Kd.V_mono (ok' := (fun k_ => (P2_ k_ ∨ w.heap.size ≤ k_) ∧ k_ ≠ Ad)) (Al.out) (fun k_ hk => ⟨hk.1, hk.2⟩))).2.1 (Kd.V_F (Kd.V_mono (ok' := (fun k_ => (P2_ k_ ∨ w.heap.size ≤ k_) ∧ k_ ≠ Ad)) (Al.out) (fun k_ hk => ⟨hk.1, hk.2⟩))))) (Reps.none _ _))); intro v628 w9 Ak hb hg_ hnew_; clear hg_ hnew_; (first | rw [← Am.out] at Ak | (simp only [Int.reduceToNat] at Ak; rw [← Am.out] at Ak)); replace Al := asd (Kd.V_elder' (by (with_reducible repeat (first | apply Kd.V_alloc | apply Kd.V_drewN | apply Kd.V_drew)); exact Al.out) (Kd.N_base Ak) hb); have Ae := asd (Kd.N_lower Ak (bsz1 HB Ab)); replace Ac := bB Ac hb; replace HB := bS1 HB Ab hb; clear hb Ak; obtain ⟨Ao11, co11, eo11⟩ := Kd.N_slice Ae.out; subst eo11) | ((with_reducible refine gate_callee (f := 16) rfl ?_); refine gl 13 Try.func16 #[.int .i64 a0, .agg #[.int .i64 Af, .int .i64 Ag, .int .i64 Ah], .slice Ao11 An.length co11] ?_; (with_reducible refine (impl_groupCode.calls _ _ _ _ _ _ _ _ _ _ ?side1 ?side2 A4.out).mono ?_); (case side1 => exact ks (Kd.N_reads' Ae.out).2.2); (case side2 => exact (Kd.N_reads' Ae.out).2.1); rintro e Ay ⟨rfl, hb⟩; refine ⟨_, rfl, ?_⟩; replace Al := asd (Kd.V_below (by (with_reducible repeat (first | apply Kd.V_alloc | apply Kd.V_drewN | apply Kd.V_drew)); exact Al.out) hb); replace Ae := asd (Kd.N_below (by (with_reducible repeat (first | apply Kd.N_alloc | apply Kd.N_drewN | apply Kd.N_drew)); exact Ae.out) hb); replace Ac := bB Ac hb; replace HB := bS1 HB Ab hb; (try clear hb)) | ((with_reducible refine gate_callee (f := 17) rfl ?_); refine gl 18 Try.func17 #[.slice A2 l2.length c2] ?_; (with_reducible refine (impl_pointPart.calls _ _ _ _ _ _ ?side1 ?side2 A6.out).mono ?_); (case side1 => exact ks (Kd.V_reads' Al.out).2.2); (case side2 => exact (Kd.V_reads' Al.out).2.1); rintro e Az ⟨v632, rfl, Ap, hb⟩; refine ⟨_, rfl, ?_⟩; replace Al := asd (Kd.V_elder' (by (with_reducible repeat (first | apply Kd.V_alloc | apply Kd.V_drewN | apply Kd.V_drew)); exact Al.out) (Kd.R_base Ap) hb); replace Ae := asd (Kd.N_elder' (by (with_reducible repeat (first | apply Kd.N_alloc | apply Kd.N_drewN | apply Kd.N_drew)); exact Ae.out) (Kd.R_base Ap) hb); have Ao := asd (Kd.R_lower (Kd.R_newM (M := fun k_ => (w.heap.size ≤ k_)) Ap (bsz1 HB Ab) (fun k_ h_ => h_)) (bsz1 HB Ab)); replace Ac := bB Ac hb; replace HB := bS1 HB Ab hb; (try clear hb); (try clear hb2); (try clear hk); (try clear hi); (try clear Ap)));go_ret2
 ·exact ⟨_, by first | rfl | (simp [errW_none, errW_some] <;> rfl) | (simp [*, errW_none, errW_some] <;> rfl), by (with_reducible repeat (first | apply Kd.R_alloc | apply Kd.R_drewN | apply Kd.R_drew)); exact Kd.R_mono Ao.out (fun _ hk => hk.1), bbw1 HB Ab⟩
 ·exact ⟨_, by first | rfl | (simp [errW_none, errW_some] <;> rfl) | (simp [*, errW_none, errW_some] <;> rfl), by first | exact Kd.R_nil _ _ _ _ _ | exact Kd.N_nil _ _ _ _ _ | exact Kd.V_nil _ _ _ _ _ | exact Kd.Q_nil _ _ _ _ _ | exact Kd.S_nil _ _ _ _ _, bbw1 HB Ab⟩
def spec_l06Code.f (a0 : Int) (Ab : Int) (Ac : Int) (Ad : Int) (a2 : Bool) : Option (Int) := (spec_l04Code.f a0 Ab Ac Ad).bind fun Aa => (if Aa = 0 then (if a2 = true then (some Aa) else (some 2)) else (some Aa))
theorem spec_l06Code.calls (a0 : Int) (Ab : Int) (Ac : Int) (Ad : Int) (a2 : Bool) (r : Int) (w : World) (h : spec_l06Code.f a0 Ab Ac Ad a2 = some r) :
  Calls Try.prog 18 #[.int .i64 a0, .agg #[.int .i64 Ab, .int .i64 Ac, .int .i64 Ad], .bool a2] w fun e w' => e = .returned (.int .i64 r) ∧ Below w.heap.size w w' := by
 have hu25 := Try.underlying25
 have HB := asd (Below.refl w.heap.size w)
 have H : ((spec_l04Code.f a0 Ab Ac Ad).bind fun Aa => (if Aa = 0 then (if a2 = true then (some Aa) else (some 2)) else (some Aa))) = some r := h
 clear h
 obtain ⟨Aa, A4, H⟩ := ob H
 try dsimp only at H
 by_cases c5 : Aa = 0
 rw [if_pos c5] at H
 have Ag : (Aa == 0) = true := beq_iff_eq.mpr c5
 have Ah : (Aa != 0) = false := bne_eq_false_iff_eq.mpr c5
 clear c5
 by_cases c6 : a2 = true
 subst c6
 replace H := ifT H
 obtain rfl := Option.some.inj H
 rotate_left
 replace c6 := Bool.eq_false_iff.mpr c6
 subst c6
 replace H := ifF H
 obtain rfl := Option.some.inj H
 rotate_left
 rw [if_neg c5] at H
 have Ag : (Aa == 0) = false := beq_eq_false_iff_ne.mpr c5
 have Ah : (Aa != 0) = true := bne_iff_ne.mpr c5
 obtain rfl := Option.some.inj H
 rotate_left
 all_goals
  go_enter Try.func18, Try.ntmps18
  go_wp2_with (first | ((with_reducible refine gd 4 rfl ?_); refine bx #[.int .i64 Ab, .int .i64 Ac, .int .i64 Ad] 25 ?_; intro Ao hg w7 Ae hb; have Af := ngw0 hg HB; replace HB := bS0 HB hb; clear hb hg; obtain ⟨Ai, Aj, Ak, Al, Am, An⟩ := bz3 Ae) | ((with_reducible refine gate_callee (f := 28) rfl ?_); refine gl 10 Try.func28 #[.int .i64 a0, .agg #[.int .i64 Ab, .int .i64 Ac, .int .i64 Ad]] ?_; (with_reducible refine (spec_l04Code.calls _ _ _ _ _ _ A4.out).mono ?_); rintro e w9 ⟨rfl, hb⟩; refine ⟨_, rfl, ?_⟩; replace Ae := bB Ae hb; replace HB := bS1 HB Af hb; (try clear hb)));go_ret
  exact er (bbw1 HB Af)
def spec_l02Det.f (Aa : Int) (Ab : Int) (Ac : Int) (Ad : Int) : Option (Int) := some (wrap64 ((wrap64 (Aa * Ad)) - (wrap64 (Ab * Ac))))
theorem spec_l02Det.calls (Aa : Int) (Ab : Int) (Ac : Int) (Ad : Int) (r : Int) (w : World) (h : spec_l02Det.f Aa Ab Ac Ad = some r) :
  Calls Try.prog 25 #[.agg #[.int .i64 Aa, .int .i64 Ab, .int .i64 Ac, .int .i64 Ad]] w fun e w' => e = .returned (.int .i64 r) ∧ Below w.heap.size w w' := by
 have hu51 := Try.underlying51
 have HB := asd (Below.refl w.heap.size w)
 have H : (some (wrap64 ((wrap64 (Aa * Ad)) - (wrap64 (Ab * Ac))))) = some r := h
 clear h
 obtain rfl := Option.some.inj H
 go_enter Try.func25, Try.ntmps25
 go_wp2_with (first | ((with_reducible refine gd 1 rfl ?_); refine bx #[.int .i64 Aa, .int .i64 Ab, .int .i64 Ac, .int .i64 Ad] 51 ?_; intro Ao hg w2 Ae hb; have Af := ngw0 hg HB; replace HB := bS0 HB hb; clear hb hg; obtain ⟨Ag, Ah, Ai, Aj, Ak, Al, Am, An⟩ := bz4 Ae))
 go_ret
 exact er (bbw1 HB Af)
def spec_IsVec.f (Aa : Int) (Ab : Int) : Option (Bool) := (spec_l01In.f Aa (-1000) 1000).bind fun Ac => (if Ac = true then ((spec_l01In.f Ab (-1000) 1000).bind fun Ad => (some Ad)) else (some false))
theorem spec_IsVec.calls (Aa : Int) (Ab : Int) (r : Bool) (w : World) (h : spec_IsVec.f Aa Ab = some r) :
  Calls Try.prog 63 #[.agg #[.int .i64 Aa, .int .i64 Ab]] w fun e w' => e = .returned (.bool r) ∧ Below w.heap.size w w' := by
 have hu53 := Try.underlying53
 have HB := asd (Below.refl w.heap.size w)
 have H : ((spec_l01In.f Aa (-1000) 1000).bind fun Ac => (if Ac = true then ((spec_l01In.f Ab (-1000) 1000).bind fun Ad => (some Ad)) else (some false))) = some r := h
 clear h
 obtain ⟨Ac, A2, H⟩ := ob H
 try dsimp only at H
 by_cases c3 : Ac = true
 subst c3
 replace H := ifT H
 obtain ⟨Ad, A4, H⟩ := ob H
 try dsimp only at H
 obtain rfl := Option.some.inj H
 rotate_left
 replace c3 := Bool.eq_false_iff.mpr c3
 subst c3
 replace H := ifF H
 obtain rfl := Option.some.inj H
 rotate_left
 all_goals
  go_enter Try.func63, Try.ntmps63
  go_wp2_with (first | ((with_reducible refine gd 1 rfl ?_); refine bx #[.int .i64 Aa, .int .i64 Ab] 53 ?_; intro Ak hg w5 Ae hb; have Af := ngw0 hg HB; replace HB := bS0 HB hb; clear hb hg; obtain ⟨Ag, Ah, Ai, Aj⟩ := bz2 Ae) | ((with_reducible refine gate_callee (f := 70) rfl ?_); refine gl 5 Try.func70 #[.int .i64 Aa, .int .i64 (-1000), .int .i64 1000] ?_; (with_reducible refine (spec_l01In.calls _ _ _ _ _ A2.out).mono ?_); rintro e w' ⟨rfl, ⟨nd, rfl⟩⟩; refine ⟨_, rfl, ?_⟩) | (go_at_call 70; (with_reducible refine (spec_l01In.calls _ _ _ _ _ A4.out).mono ?_); rintro e w' ⟨rfl, ⟨nd, rfl⟩⟩));go_ret
  exact er (bbw1 HB Af)
def spec_l02Small.f (Ac : Int) (Ad : Int) (Ae : Int) (Af : Int) : Option (Bool) := (spec_IsVec.f Ac Ad).bind fun Ag => (if Ag = true then ((spec_IsVec.f Ae Af).bind fun Ah => (some Ah)) else (some false))
theorem spec_l02Small.calls (Ac : Int) (Ad : Int) (Ae : Int) (Af : Int) (r : Bool) (w : World) (h : spec_l02Small.f Ac Ad Ae Af = some r) :
  Calls Try.prog 45 #[.agg #[.int .i64 Ac, .int .i64 Ad, .int .i64 Ae, .int .i64 Af]] w fun e w' => e = .returned (.bool r) ∧ Below w.heap.size w w' := by
 have hu51 := Try.underlying51
 have hu53 := Try.underlying53
 have HB := asd (Below.refl w.heap.size w)
 have H : ((spec_IsVec.f Ac Ad).bind fun Ag => (if Ag = true then ((spec_IsVec.f Ae Af).bind fun Ah => (some Ah)) else (some false))) = some r := h
 clear h
 obtain ⟨Ag, A2, H⟩ := ob H
 try dsimp only at H
 by_cases c3 : Ag = true
 ·subst c3;replace H := ifT H;obtain ⟨Ah, A4, H⟩ := ob H;try dsimp only at H
  obtain rfl := Option.some.inj H;go_enter Try.func45, Try.ntmps45
  go_wp2_with (first | ((with_reducible refine gd 1 rfl ?_); refine bx #[.int .i64 Ac, .int .i64 Ad, .int .i64 Ae, .int .i64 Af] 51 ?_; intro Ai hg w5 Aa hb; have Ab := ngw0 hg HB; replace HB := bS0 HB hb; clear hb hg; obtain ⟨Ar, As, At, Au, Av, Aw, Ax, Ay⟩ := bz4 Aa) | ((with_reducible refine gate_callee (f := 63) rfl ?_); refine gl 8 Try.func63 #[.agg #[.int .i64 Ac, .int .i64 Ad]] ?_; (with_reducible refine (spec_IsVec.calls _ _ _ _ A2.out).mono ?_); rintro e w7 ⟨rfl, hb⟩; refine ⟨_, rfl, ?_⟩; replace Aa := bB Aa hb; replace HB := bS1 HB Ab hb; (try clear hb); obtain ⟨Az, AA, AB, AC, AD, AE, AF, AG⟩ := bz4 Aa) | (go_at_call 63; (with_reducible refine (spec_IsVec.calls _ _ _ _ A4.out).mono ?_); rintro e w9 ⟨rfl, hb⟩; replace Aa := bB Aa hb; replace HB := bS1 HB Ab hb; (try clear hb)));go_ret
  exact er (bbw1 HB Ab)
 ·replace c3 := Bool.eq_false_iff.mpr c3;subst c3;replace H := ifF H;obtain rfl := Option.some.inj H;go_enter Try.func45, Try.ntmps45
  go_wp2_with (first | ((with_reducible refine gd 1 rfl ?_); refine bx #[.int .i64 Ac, .int .i64 Ad, .int .i64 Ae, .int .i64 Af] 51 ?_; intro Ai hg AH Aa hb; have Ab := ngw0 hg HB; replace HB := bS0 HB hb; clear hb hg; obtain ⟨Aj, Ak, Al, Am, An, Ao, Ap, Aq⟩ := bz4 Aa) | ((with_reducible refine gate_callee (f := 63) rfl ?_); refine gl 8 Try.func63 #[.agg #[.int .i64 Ac, .int .i64 Ad]] ?_; (with_reducible refine (spec_IsVec.calls _ _ _ _ A2.out).mono ?_); rintro e AI ⟨rfl, hb⟩; refine ⟨_, rfl, ?_⟩; replace Aa := bB Aa hb; replace HB := bS1 HB Ab hb; (try clear hb)));go_ret
  exact er (bbw1 HB Ab)
def spec_IsMat.f (Ac : Int) (Ad : Int) (Ae : Int) (Af : Int) : Option (Bool) := (spec_l02Small.f Ac Ad Ae Af).bind fun Ah => (if Ah = true then ((spec_l02Det.f Ac Ad Ae Af).bind fun Ag => (if Ag = 1 then (some true) else ((spec_l02Det.f Ac Ad Ae Af).bind fun Ai => (some (Ai == (-1)))))) else (some false))
theorem spec_IsMat.calls (Ac : Int) (Ad : Int) (Ae : Int) (Af : Int) (r : Bool) (w : World) (h : spec_IsMat.f Ac Ad Ae Af = some r) :
  Calls Try.prog 87 #[.agg #[.int .i64 Ac, .int .i64 Ad, .int .i64 Ae, .int .i64 Af]] w fun e w' => e = .returned (.bool r) ∧ Below w.heap.size w w' := by
 have hu51 := Try.underlying51
 have HB := asd (Below.refl w.heap.size w)
 have H : ((spec_l02Small.f Ac Ad Ae Af).bind fun Ah => (if Ah = true then ((spec_l02Det.f Ac Ad Ae Af).bind fun Ag => (if Ag = 1 then (some true) else ((spec_l02Det.f Ac Ad Ae Af).bind fun Ai => (some (Ai == (-1)))))) else (some false))) = some r := h
 clear h
 obtain ⟨Ah, A2, H⟩ := ob H
 try dsimp only at H
 by_cases c3 : Ah = true
 ·subst c3;replace H := ifT H;obtain ⟨Ag, A4, H⟩ := ob H;try dsimp only at H
  by_cases c5 : Ag = 1
  ·rw [if_pos c5] at H;have AQ : (Ag == 1) = true := beq_iff_eq.mpr c5;have AR : (Ag != 1) = false := bne_eq_false_iff_eq.mpr c5;clear c5;obtain rfl := Option.some.inj H;go_enter Try.func87, Try.ntmps87
   go_wp2_with (first | ((with_reducible refine gd 1 rfl ?_); refine bx #[.int .i64 Ac, .int .i64 Ad, .int .i64 Ae, .int .i64 Af] 51 ?_; intro Aj hg w6 Aa hb; have Ab := ngw0 hg HB; replace HB := bS0 HB hb; clear hb hg; obtain ⟨AS, AT, AU, AV, AW, AX, AY, AZ⟩ := bz4 Aa) | ((with_reducible refine gate_callee (f := 45) rfl ?_); refine gl 4 Try.func45 #[.agg #[.int .i64 Ac, .int .i64 Ad, .int .i64 Ae, .int .i64 Af]] ?_; (with_reducible refine (spec_l02Small.calls _ _ _ _ _ _ A2.out).mono ?_); rintro e w8 ⟨rfl, hb⟩; refine ⟨_, rfl, ?_⟩; replace Aa := bB Aa hb; replace HB := bS1 HB Ab hb; (try clear hb); obtain ⟨A0, A1, A3, A5, A6, A7, A8, A9⟩ := bz4 Aa) | (go_at_call 25; (with_reducible refine (spec_l02Det.calls _ _ _ _ _ _ A4.out).mono ?_); rintro e Bb ⟨rfl, hb⟩; replace Aa := bB Aa hb; replace HB := bS1 HB Ab hb; (try clear hb)));go_ret
   exact er (bbw1 HB Ab)
  ·rw [if_neg c5] at H;have AQ : (Ag == 1) = false := beq_eq_false_iff_ne.mpr c5;have AR : (Ag != 1) = true := bne_iff_ne.mpr c5;obtain ⟨Ai, Ba, H⟩ := ob H;try dsimp only at H
   have e_ : Ag = Ai := Option.some.inj (A4.out.symm.trans Ba.out);subst e_;obtain rfl := Option.some.inj H;go_enter Try.func87, Try.ntmps87
   go_wp2_with (first | ((with_reducible refine gd 1 rfl ?_); refine bx #[.int .i64 Ac, .int .i64 Ad, .int .i64 Ae, .int .i64 Af] 51 ?_; intro Aj hg Bc Aa hb; have Ab := ngw0 hg HB; replace HB := bS0 HB hb; clear hb hg; obtain ⟨Ak, Al, Am, An, Ao, Ap, Aq, Ar⟩ := bz4 Aa) | ((with_reducible refine gate_callee (f := 45) rfl ?_); refine gl 4 Try.func45 #[.agg #[.int .i64 Ac, .int .i64 Ad, .int .i64 Ae, .int .i64 Af]] ?_; (with_reducible refine (spec_l02Small.calls _ _ _ _ _ _ A2.out).mono ?_); rintro e Bd ⟨rfl, hb⟩; refine ⟨_, rfl, ?_⟩; replace Aa := bB Aa hb; replace HB := bS1 HB Ab hb; (try clear hb); obtain ⟨As, At, Au, Av, Aw, Ax, Ay, Az⟩ := bz4 Aa) | (go_at_call 25; (with_reducible refine (spec_l02Det.calls _ _ _ _ _ _ A4.out).mono ?_); rintro e Be ⟨rfl, hb⟩; replace Aa := bB Aa hb; replace HB := bS1 HB Ab hb; (try clear hb); obtain ⟨AA, AB, AC, AD, AE, AF, AG, AH⟩ := bz4 Aa) | (go_at_call 25; (with_reducible refine (spec_l02Det.calls _ _ _ _ _ _ Ba.out).mono ?_); rintro e Bf ⟨rfl, hb⟩; replace Aa := bB Aa hb; replace HB := bS1 HB Ab hb; (try clear hb)));go_ret
   exact er (bbw1 HB Ab)
 ·replace c3 := Bool.eq_false_iff.mpr c3;subst c3;replace H := ifF H;obtain rfl := Option.some.inj H;go_enter Try.func87, Try.ntmps87
  go_wp2_with (first | ((with_reducible refine gd 1 rfl ?_); refine bx #[.int .i64 Ac, .int .i64 Ad, .int .i64 Ae, .int .i64 Af] 51 ?_; intro Aj hg Bg Aa hb; have Ab := ngw0 hg HB; replace HB := bS0 HB hb; clear hb hg; obtain ⟨AI, AJ, AK, AL, AM, AN, AO, AP⟩ := bz4 Aa) | ((with_reducible refine gate_callee (f := 45) rfl ?_); refine gl 4 Try.func45 #[.agg #[.int .i64 Ac, .int .i64 Ad, .int .i64 Ae, .int .i64 Af]] ?_; (with_reducible refine (spec_l02Small.calls _ _ _ _ _ _ A2.out).mono ?_); rintro e Bh ⟨rfl, hb⟩; refine ⟨_, rfl, ?_⟩; replace Aa := bB Aa hb; replace HB := bS1 HB Ab hb; (try clear hb)));go_ret
  exact er (bbw1 HB Ab)
def spec_IsPointMat.f (a0 : Int) (Ad : Int) (Ae : Int) (Af : Int) (Ag : Int) : Option (Bool) := (spec_IsFrame.f a0).bind fun Ah => (if Ah = true then ((spec_IsMat.f Ad Ae Af Ag).bind fun Ai => (if Ai = true then ((spec_l04Keeps.f a0 Ad Ae Af Ag).bind fun Aj => (some Aj)) else (some false))) else (some false))
theorem spec_IsPointMat.calls (a0 : Int) (Ad : Int) (Ae : Int) (Af : Int) (Ag : Int) (r : Bool) (w : World) (h : spec_IsPointMat.f a0 Ad Ae Af Ag = some r) :
  Calls Try.prog 61 #[.int .i64 a0, .agg #[.int .i64 Ad, .int .i64 Ae, .int .i64 Af, .int .i64 Ag]] w fun e w' => e = .returned (.bool r) ∧ Below w.heap.size w w' := by
 have hu51 := Try.underlying51
 have HB := asd (Below.refl w.heap.size w)
 have H : ((spec_IsFrame.f a0).bind fun Ah => (if Ah = true then ((spec_IsMat.f Ad Ae Af Ag).bind fun Ai => (if Ai = true then ((spec_l04Keeps.f a0 Ad Ae Af Ag).bind fun Aj => (some Aj)) else (some false))) else (some false))) = some r := h
 clear h
 obtain ⟨Ah, A3, H⟩ := ob H
 try dsimp only at H
 by_cases c4 : Ah = true
 ·subst c4;replace H := ifT H;obtain ⟨Ai, A5, H⟩ := ob H;try dsimp only at H
  by_cases c6 : Ai = true
  ·subst c6;replace H := ifT H;obtain ⟨Aj, A7, H⟩ := ob H;try dsimp only at H
   obtain rfl := Option.some.inj H;go_enter Try.func61, Try.ntmps61
   go_wp2_with (first | ((with_reducible refine gd 3 rfl ?_); refine bx #[.int .i64 Ad, .int .i64 Ae, .int .i64 Af, .int .i64 Ag] 51 ?_; intro Ab hg w8 Aa hb; have Ac := ngw0 hg HB; replace HB := bS0 HB hb; clear hb hg) | ((with_reducible refine gate_callee (f := 48) rfl ?_); refine gl 6 Try.func48 #[.int .i64 a0] ?_; (with_reducible refine (spec_IsFrame.calls _ _ _ A3.out).mono ?_); rintro e w' ⟨rfl, ⟨nd, rfl⟩⟩; refine ⟨_, rfl, ?_⟩; have AB : w8.cell? ⟨Ab, 0, none⟩ = some (.int .i64 Ad) := bcl Aa 0; have AC : w8.cell? ⟨Ab, 1, none⟩ = some (.int .i64 Ae) := bcl Aa 1; have AD : w8.cell? ⟨Ab, 2, none⟩ = some (.int .i64 Af) := bcl Aa 2; have AE : w8.cell? ⟨Ab, 3, none⟩ = some (.int .i64 Ag) := bcl Aa 3; have AF := blk_frozen Aa.out 0; have AG := blk_frozen Aa.out 1; have AH := blk_frozen Aa.out 2; have AI := blk_frozen Aa.out 3) | (go_at_call 87; (with_reducible refine (spec_IsMat.calls _ _ _ _ _ _ A5.out).mono ?_); rintro e AJ ⟨rfl, hb⟩; replace Aa := bB Aa hb; replace HB := bS1 HB Ac hb; (try clear hb); obtain ⟨Ak, Al, Am, An, Ao, Ap, Aq, Ar⟩ := bz4 Aa) | (go_at_call 88; (with_reducible refine (spec_l04Keeps.calls _ _ _ _ _ _ _ A7.out).mono ?_); rintro e AK ⟨rfl, hb⟩; replace Aa := bB Aa hb; replace HB := bS1 HB Ac hb; (try clear hb)));go_ret
   exact er (bbw1 HB Ac)
  ·replace c6 := Bool.eq_false_iff.mpr c6;subst c6;replace H := ifF H;obtain rfl := Option.some.inj H;go_enter Try.func61, Try.ntmps61
   go_wp2_with (first | ((with_reducible refine gd 3 rfl ?_); refine bx #[.int .i64 Ad, .int .i64 Ae, .int .i64 Af, .int .i64 Ag] 51 ?_; intro Ab hg As Aa hb; have Ac := ngw0 hg HB; replace HB := bS0 HB hb; clear hb hg) | ((with_reducible refine gate_callee (f := 48) rfl ?_); refine gl 6 Try.func48 #[.int .i64 a0] ?_; (with_reducible refine (spec_IsFrame.calls _ _ _ A3.out).mono ?_); rintro e w' ⟨rfl, ⟨nd, rfl⟩⟩; refine ⟨_, rfl, ?_⟩; have At : As.cell? ⟨Ab, 0, none⟩ = some (.int .i64 Ad) := bcl Aa 0; have Au : As.cell? ⟨Ab, 1, none⟩ = some (.int .i64 Ae) := bcl Aa 1; have Av : As.cell? ⟨Ab, 2, none⟩ = some (.int .i64 Af) := bcl Aa 2; have Aw : As.cell? ⟨Ab, 3, none⟩ = some (.int .i64 Ag) := bcl Aa 3; have Ax := blk_frozen Aa.out 0; have Ay := blk_frozen Aa.out 1; have Az := blk_frozen Aa.out 2; have AA := blk_frozen Aa.out 3) | (go_at_call 87; (with_reducible refine (spec_IsMat.calls _ _ _ _ _ _ A5.out).mono ?_); rintro e AL ⟨rfl, hb⟩; replace Aa := bB Aa hb; replace HB := bS1 HB Ac hb; (try clear hb)));go_ret
   exact er (bbw1 HB Ac)
 ·replace c4 := Bool.eq_false_iff.mpr c4;subst c4;replace H := ifF H;obtain rfl := Option.some.inj H;go_enter Try.func61, Try.ntmps61
  go_wp2_with (first | ((with_reducible refine gd 3 rfl ?_); refine bx #[.int .i64 Ad, .int .i64 Ae, .int .i64 Af, .int .i64 Ag] 51 ?_; intro Ab hg AM Aa hb; have Ac := ngw0 hg HB; replace HB := bS0 HB hb; clear hb hg) | ((with_reducible refine gate_callee (f := 48) rfl ?_); refine gl 6 Try.func48 #[.int .i64 a0] ?_; (with_reducible refine (spec_IsFrame.calls _ _ _ A3.out).mono ?_); rintro e w' ⟨rfl, ⟨nd, rfl⟩⟩; refine ⟨_, rfl, ?_⟩));go_ret
  exact er (bbw1 HB Ac)
end Go.Proofs.Ytedmadofpdkekaa.PA
