import Derived.Test.YtedmadofpdkekaaPAx0
import Derived.Test.YtedmadofpdkekaaPAx2
import Derived.Test.YtedmadofpdkekaaPAx3
import Derived.Test.YtedmadofpdkekaaPAx5
import Derived.Test.YtedmadofpdkekaaPAx6
import Derived.Test.YtedmadofpdkekaaPAx9
import Derived.Test.YtedmadofpdkekaaPAx12
import Derived.Test.YtedmadofpdkekaaPAx15
import Derived.Test.YtedmadofpdkekaaPAx17
import Derived.Test.YtedmadofpdkekaaPAx18
namespace Go.Proofs.Ytedmadofpdkekaa.PA
open Go.RowKit Go.Proofs.YtedmadofpdkekaaW.PrintWords Go.Proofs.YtedmadofpdkekaaW.PrintLast Go.Proofs.YtedmadofpdkekaaW.PrintMore
attribute [local go_sem] max2_int min2_int max_two min_two max_three min_three max_four min_four   -- for this text's walks alone
set_option linter.unusedVariables false
set_option maxHeartbeats 8000000
set_option maxRecDepth 100000
set_option linter.unusedSimpArgs false
attribute [local go_sem high] eqA51
def impl_rotationOrder.l0 : Nat → Int → List (S55) → Int → Int → Option (Int)
 | 0, _, _, _, _ => none
 | k + 1, x3, x6, x7, x8 => if x8 < x7 then (if 0 ≤ x8 then (if x8 < (x6.length : Int) then ((impl_Mat_det.f ((qr x6 x8).f0.f0) ((qr x6 x8).f0.f1) ((qr x6 x8).f0.f2) ((qr x6 x8).f0.f3)).bind fun Ad => (if Ad = 1 then ((impl_Mat_order.f k ((qr x6 x8).f0.f0) ((qr x6 x8).f0.f1) ((qr x6 x8).f0.f2) ((qr x6 x8).f0.f3)).bind fun Ag => (impl_rotationOrder.l0 k (mx x3 Ag) x6 x7 (wrap64 (x8 + 1)))) else (impl_rotationOrder.l0 k x3 x6 x7 (wrap64 (x8 + 1))))) else (none)) else (none)) else (some x3)
def impl_rotationOrder.f (k : Nat) (l0 : List (S55)) : Option (Int) := impl_rotationOrder.l0 k 1 l0 (l0.length : Int) 0
theorem impl_rotationOrder.calls (k : Nat) (A0 : Option Addr) (c0 : Nat) (l0 : List (S55)) (r : Int) (w : World) (hr0 : Kd.C k55 w A0 l0.length l0) (hc0 : l0.length ≤ c0) (h : impl_rotationOrder.f k l0 = some r) :
  Calls Try.prog 23 #[.slice A0 l0.length c0] w fun e w' => e = .returned (.int .i64 r) ∧ Below w.heap.size w w' := by
 have hu55 := Try.underlying55
 have hu51 := Try.underlying51
 have HR0 := Aside0.mk hr0
 have A9 := Aside0.mk hc0
 clear hr0 hc0
 have HB := asd (Below.refl w.heap.size w)
 have H : (impl_rotationOrder.l0 k 1 l0 (l0.length : Int) 0) = some r := h
 clear h
 have H' := Aside0.mk H
 clear H
 go_enter Try.func23, Try.ntmps23
 go_wp2
 go_loopg [3, 8] k (fun kq v3 v8 w' => ∃ (Ae : Int) (Aa : Int), v3 = .int .i64 Ae ∧ v8 = .int .i64 Aa ∧ Aside0 (impl_rotationOrder.l0 kq Ae l0 (l0.length : Int) Aa = some r) ∧ Aside0 (kq ≤ k) ∧ Aside0 (Below w.heap.size w w'))
 case atStart => exact ⟨(1), (0), (by first | rfl | (simp; done) | (simp [*]; done)), (by first | rfl | (simp; done) | (simp [*]; done)), H', ⟨Nat.le_refl _⟩, ⟨bbw0 HB⟩⟩
 case round =>
  clear H';obtain ⟨Ae, Aa, rfl, rfl, HA, Ai, HB⟩ := hrel;cases gk with
  | zero => exact absurd HA.out (by simp [impl_rotationOrder.l0])
  | succ k1 =>
   have H := HA.out;clear HA;simp only [impl_rotationOrder.l0] at H;by_cases c2 : Aa < (l0.length : Int)
   rw [if_pos c2] at H;have AZ := qp c2;clear c2;by_cases c3 : 0 ≤ Aa
   rw [if_pos c3] at H;have A6 := qp c3;clear c3;by_cases c4 : Aa < (l0.length : Int)
   rw [if_pos c4] at H;have A8 := qp c4;clear c4;obtain ⟨Ad, A5, H⟩ := ob H;try dsimp only at H
   by_cases c6 : Ad = 1
   rw [if_pos c6] at H;have A1 : (Ad == 1) = true := beq_iff_eq.mpr c6;have A2 : (Ad != 1) = false := bne_eq_false_iff_eq.mpr c6;clear c6;obtain ⟨Ag, A7, H⟩ := ob H;try dsimp only at H
   obtain ⟨A3, Af⟩ : ∃ j_ : Int, (mx Ae Ag) = j_ := ⟨_, rfl⟩;replace H : (impl_rotationOrder.l0 k1 A3 l0 (l0.length : Int) (wrap64 (Aa + 1))) = some r := by first | (rw [Af] at H; first | done | exact H) | (simp only [Af] at H ⊢; exact H)
   (try rw [Af] at A5);(try rw [Af] at A7);have A4 : (if Ae < Ag then Ag else Ae) = A3 := Af;have H' := Aside0.mk H;clear H;rotate_left;rw [if_neg c6] at H;have A1 : (Ad == 1) = false := beq_eq_false_iff_ne.mpr c6;have A2 : (Ad != 1) = true := bne_iff_ne.mpr c6;have H' := Aside0.mk H;clear H;rotate_left
   ·rw [if_neg c4] at H;exact absurd H (by simp)
   ·rw [if_neg c3] at H;exact absurd H (by simp)
   rw [if_neg c2] at H;have AZ := qq c2;clear c2;obtain rfl := Option.some.inj H;rotate_left;rotate_left 2
   ·go_wp2
    go_ret
    exact er (bbw0 HB)
   all_goals
    obtain ⟨p763, q763, ad763, e763, Aj, Ak, Al, Am, An, Ao⟩ := at_T55x HR0.out HB Aa;cases e763
   ·go_wp2_with (first | ((with_reducible refine gd 5 rfl ?_); refine bx #[.int .i64 0, .int .i64 0, .int .i64 0, .int .i64 0, .int .i64 0, .int .i64 0] 55 ?_; intro Ah hg w9 Ab hb; have Ac := ngw0 hg HB; replace HB := bS0 HB hb; clear hb hg; obtain ⟨Ap, Aq, Ar, As, At, Au, Av, Aw, Ax, Ay, Az, AA⟩ := bz6 Ab) | ((with_reducible refine gate_callee (f := 42) rfl ?_); refine gl 14 Try.func42 #[.agg #[.int .i64 ((qr l0 Aa).f0.f0), .int .i64 ((qr l0 Aa).f0.f1), .int .i64 ((qr l0 Aa).f0.f2), .int .i64 ((qr l0 Aa).f0.f3)]] ?_; (with_reducible refine (impl_Mat_det.calls _ _ _ _ _ _ A5.out).mono ?_); rintro e Ba ⟨rfl, hb⟩; refine ⟨_, rfl, ?_⟩; replace Ab := asd (blk_below (g := Ah) (o := .cells #[.int .i64 ((qr l0 Aa).f0.f0), .int .i64 ((qr l0 Aa).f0.f1), .int .i64 ((qr l0 Aa).f0.f2), .int .i64 ((qr l0 Aa).f0.f3), .int .i64 ((qr l0 Aa).f1.f0), .int .i64 ((qr l0 Aa).f1.f1)] 55 (0, 0)) (bq0 Ab) hb); replace HB := bS1 HB Ac hb; (try clear hb); obtain ⟨AB, AC, AD, AE, AF, AG, AH, AI, AJ, AK, AL, AM⟩ := bz6 Ab) | ((with_reducible refine gate_callee (f := 43) rfl ?_); refine gl 19 Try.func43 #[.agg #[.int .i64 ((qr l0 Aa).f0.f0), .int .i64 ((qr l0 Aa).f0.f1), .int .i64 ((qr l0 Aa).f0.f2), .int .i64 ((qr l0 Aa).f0.f3)]] ?_; (with_reducible refine (impl_Mat_order.calls _ _ _ _ _ _ _ A7.out).mono ?_); rintro e Bb ⟨rfl, hb⟩; refine ⟨_, rfl, ?_⟩; replace Ab := bB Ab hb; replace HB := bS1 HB Ac hb; (try clear hb)));go_roundg k1
    case measure => have := Ai.out; omega
    case rel => exact ⟨(A3), (wrap64 (Aa + 1)), (by first | rfl | (simp; done) | (simp only [← Af] <;> (first | rfl | simp)) | (simp [*]; done)), (by first | rfl | (simp; done) | (simp [*]; done)), H', ⟨by have := Ai.out; omega⟩, ⟨bbw1 HB Ac⟩⟩
   ·go_wp2_with (first | ((with_reducible refine gd 5 rfl ?_); refine bx #[.int .i64 0, .int .i64 0, .int .i64 0, .int .i64 0, .int .i64 0, .int .i64 0] 55 ?_; intro Ah hg Bc Ab hb; have Ac := ngw0 hg HB; replace HB := bS0 HB hb; clear hb hg; obtain ⟨AN, AO, AP, AQ, AR, AS, AT, AU, AV, AW, AX, AY⟩ := bz6 Ab) | ((with_reducible refine gate_callee (f := 42) rfl ?_); refine gl 14 Try.func42 #[.agg #[.int .i64 ((qr l0 Aa).f0.f0), .int .i64 ((qr l0 Aa).f0.f1), .int .i64 ((qr l0 Aa).f0.f2), .int .i64 ((qr l0 Aa).f0.f3)]] ?_; (with_reducible refine (impl_Mat_det.calls _ _ _ _ _ _ A5.out).mono ?_); rintro e Bd ⟨rfl, hb⟩; refine ⟨_, rfl, ?_⟩; replace Ab := asd (blk_below (g := Ah) (o := .cells #[.int .i64 ((qr l0 Aa).f0.f0), .int .i64 ((qr l0 Aa).f0.f1), .int .i64 ((qr l0 Aa).f0.f2), .int .i64 ((qr l0 Aa).f0.f3), .int .i64 ((qr l0 Aa).f1.f0), .int .i64 ((qr l0 Aa).f1.f1)] 55 (0, 0)) (bq0 Ab) hb); replace HB := bS1 HB Ac hb; (try clear hb)));go_roundg k1
    case measure => have := Ai.out; omega
    case rel => exact ⟨(Ae), (wrap64 (Aa + 1)), (by first | rfl | (simp; done) | (simp [*]; done)), (by first | rfl | (simp; done) | (simp [*]; done)), H', ⟨by have := Ai.out; omega⟩, ⟨bbw1 HB Ac⟩⟩
def impl_RotationOrder.f (k : Nat) (a0 : Int) (Af : Int) (Ag : Int) (Ah : Int) (l2 : List (S55)) : Option (Int × Int) := (impl_groupCode.f k a0 Af Ag Ah (([l2] : List (List (S55))))).bind fun Aa => (if Aa = 0 then ((impl_rotationOrder.f k l2).bind fun Aj => (some (Aj, 0))) else (some (0, Aa)))
theorem impl_RotationOrder.calls (k : Nat) (a0 : Int) (Af : Int) (Ag : Int) (Ah : Int) (P2_ : Nat → Prop) (A2 : Option Addr) (c2 : Nat) (l2 : List (S55)) (r1 : Int) (r2 : Int) (w : World) (hs2 : Kd.V k55 55 w w.heap.size (fun k_ => P2_ k_) (.slice A2 l2.length c2) l2) (h : impl_RotationOrder.f k a0 Af Ag Ah l2 = some (r1, r2)) :
  Calls Try.prog 10 #[.int .i64 a0, .agg #[.int .i64 Af, .int .i64 Ag, .int .i64 Ah], .slice A2 l2.length c2] w fun e w' => e = .returned (.tuple #[.int .i64 r1, .int .i64 r2]) ∧ Below w.heap.size w w' := by
 have hu25 := Try.underlying25
 have Al := asd (show Kd.V k55 55 w w.heap.size (fun k_ => (P2_ k_ ∨ w.heap.size ≤ k_)) (.slice A2 l2.length c2) l2 from Kd.V_mono hs2 (fun k_ hk => .inl hk))
 have HB := asd (Below.refl w.heap.size w)
 have H : ((impl_groupCode.f k a0 Af Ag Ah (([l2] : List (List (S55))))).bind fun Aa => (if Aa = 0 then ((impl_rotationOrder.f k l2).bind fun Aj => (some (Aj, 0))) else (some (0, Aa)))) = some (r1, r2) := h
 clear h
 obtain ⟨An, Ai⟩ : ∃ y_ : List (List (S55)), y_ = (([l2] : List (List (S55)))) := ⟨_, rfl⟩
 replace H : ((impl_groupCode.f k a0 Af Ag Ah An).bind fun Aa => (if Aa = 0 then ((impl_rotationOrder.f k l2).bind fun Aj => (some (Aj, 0))) else (some (0, Aa)))) = some (r1, r2) := by first | (rw [Ai]; with_reducible exact H) | (have H2_ := (Option.bind_some _ _).symm.trans H; rw [Ai]; with_reducible exact H2_) | (have H2_ := (Option.bind_some _ _).symm.trans H; with_reducible exact H2_) | with_reducible exact H | (rw [Ai]; exact H) | exact H
 have Am := Aside0.mk Ai
 clear Ai
 obtain ⟨Aa, A4, H⟩ := ob H
 try dsimp only at H
 by_cases c5 : Aa = 0
 rw [if_pos c5] at H
 have Ao : (Aa == 0) = true := beq_iff_eq.mpr c5
 have Ap : (Aa != 0) = false := bne_eq_false_iff_eq.mpr c5
 clear c5
 obtain ⟨Aj, A6, H⟩ := ob H
 try dsimp only at H
 rotate_left
 rw [if_neg c5] at H
 have Ao : (Aa == 0) = false := beq_eq_false_iff_ne.mpr c5
 have Ap : (Aa != 0) = true := bne_iff_ne.mpr c5
 rotate_left
 all_goals
  simp only [Option.some.injEq, Prod.mk.injEq] at H;obtain ⟨rfl, rfl⟩ := H;go_enter Try.func10, Try.ntmps10
  go_wp2_with (first | ((with_reducible refine gd 4 rfl ?_); refine bx #[.int .i64 Af, .int .i64 Ag, .int .i64 Ah] 25 ?_; intro Ac hg w7 Ab hb; replace Al := asd (Kd.V_below (Kd.V_elderB (by (with_reducible repeat (first | apply Kd.V_alloc | apply Kd.V_drewN | apply Kd.V_drew)); exact Al.out) Ac (Nat.le_of_eq hg.symm)) hb); have Ae := ngw0 hg HB; replace HB := bS0 HB hb; clear hb hg; obtain ⟨Aq, Ar, As, At, Au, Av⟩ := bz3 Ab) | ((with_reducible refine gd 12 rfl ?_); refine Kd.N_lit (Kd.slice 55 k55) _ 26 ?hg (N' := 12) ?hd (xs := ([l2] : List (List (S55)))) (inner := [.slice A2 l2.length c2]) (ok := (fun k_ => (P2_ k_ ∨ w.heap.size ≤ k_) ∧ k_ ≠ Ac)) (okp := (fun k_ => (P2_ k_ ∨ w.heap.size ≤ k_) ∧ k_ ≠ Ac)) ?hr ?hp (fun _ hk => hk) ((show ∀ k_, w7.heap.size ≤ k_ → (fun k_ => (P2_ k_ ∨ w.heap.size ≤ k_) ∧ k_ ≠ Ac) k_ from fun k_ hk => ⟨(.inr (Nat.le_trans (bsz1 HB Ae) hk)), Kd.freshB (g := Ac) (o := .cells #[.int .i64 Af, .int .i64 Ag, .int .i64 Ah] 25 (0, 0)) (bkp Ab) k_ hk⟩) _ (Nat.le_refl _)) (Below.refl _ _) (Nat.le_refl _) (by simp) ?_; (case hd => rfl); (case hg => rfl); (case hr => first | (go_simp; done) | (go_simp; rfl)); (case hp => exact (Reps.one (show Kd.FK (Kd.slice 55 k55) _ _ l2 [.slice A2 l2.length c2] from (Kd.FK_slice_mk (Kd.V_reads' (Kd.V_mono (ok' := (fun k_ => (P2_ k_ ∨ w.heap.size ≤ k_) ∧ k_ ≠ Ac)) (Al.out) (fun k_ hk => ⟨hk.1, hk.2⟩))).2.1 (Kd.V_F (Kd.V_mono (ok' := (fun k_ => (P2_ k_ ∨ w.heap.size ≤ k_) ∧ k_ ≠ Ac)) (Al.out) (fun k_ hk => ⟨hk.1, hk.2⟩))))) (Reps.none _ _))); intro v769 w9 Ak hb hg_ hnew_; clear hg_ hnew_; (first | rw [← Am.out] at Ak | (simp only [Int.reduceToNat] at Ak; rw [← Am.out] at Ak)); replace Al := asd (Kd.V_elder' (by (with_reducible repeat (first | apply Kd.V_alloc | apply Kd.V_drewN | apply Kd.V_drew)); exact Al.out) (Kd.N_base Ak) hb); have Ad := asd (Kd.N_lower Ak (bsz1 HB Ae)); replace Ab := bB Ab hb; replace HB := bS1 HB Ae hb; clear hb Ak; obtain ⟨Ao11, co11, eo11⟩ := Kd.N_slice Ad.out; subst eo11) | ((with_reducible refine gate_callee (f := 16) rfl ?_); refine gl 13 Try.func16 #[.int .i64 a0, .agg #[.int .i64 Af, .int .i64 Ag, .int .i64 Ah], .slice Ao11 An.length co11] ?_; (with_reducible refine (impl_groupCode.calls _ _ _ _ _ _ _ _ _ _ ?side1 ?side2 A4.out).mono ?_); (case side1 => exact ks (Kd.N_reads' Ad.out).2.2); (case side2 => exact (Kd.N_reads' Ad.out).2.1); rintro e Aw ⟨rfl, hb⟩; refine ⟨_, rfl, ?_⟩; replace Al := asd (Kd.V_below (by (with_reducible repeat (first | apply Kd.V_alloc | apply Kd.V_drewN | apply Kd.V_drew)); exact Al.out) hb); replace Ad := asd (Kd.N_below (by (with_reducible repeat (first | apply Kd.N_alloc | apply Kd.N_drewN | apply Kd.N_drew)); exact Ad.out) hb); replace Ab := bB Ab hb; replace HB := bS1 HB Ae hb; (try clear hb)) | ((with_reducible refine gate_callee (f := 23) rfl ?_); refine gl 18 Try.func23 #[.slice A2 l2.length c2] ?_; (with_reducible refine (impl_rotationOrder.calls _ _ _ _ _ _ ?side1 ?side2 A6.out).mono ?_); (case side1 => exact ks (Kd.V_reads' Al.out).2.2); (case side2 => exact (Kd.V_reads' Al.out).2.1); rintro e Ax ⟨rfl, hb⟩; refine ⟨_, rfl, ?_⟩; replace Al := asd (Kd.V_below (by (with_reducible repeat (first | apply Kd.V_alloc | apply Kd.V_drewN | apply Kd.V_drew)); exact Al.out) hb); replace Ad := asd (Kd.N_below (by (with_reducible repeat (first | apply Kd.N_alloc | apply Kd.N_drewN | apply Kd.N_drew)); exact Ad.out) hb); replace Ab := bB Ab hb; replace HB := bS1 HB Ae hb; (try clear hb)));go_ret2
  exact er (bbw1 HB Ae)
def spec_l07Code.f (k : Nat) (a0 : Int) (Ab : Int) (Ac : Int) (Ad : Int) (l2 : List (S55)) (a3 : Bool) : Option (Int) := if a3 = true then ((spec_IsGroup.f k a0 Ab Ac Ad l2).bind fun Ae => ((spec_l06Code.f a0 Ab Ac Ad Ae).bind fun Ag => (some Ag))) else ((spec_l06Code.f a0 Ab Ac Ad false).bind fun Ah => (some Ah))
def spec_l07Code.T1 : Bool × List (List Nat × List Nat) := (true, [([], []), ([], []), ([], []), ([2], [2]), ([3], [3]), ([3], [3]), ([3], [3]), ([4, 5, 6, 3, 3], [3, 4, 5, 6]), ([3, 7], [3, 7]), ([0, 1, 8, 7], [0, 1, 8]), ([9, 9, 0, 1, 2, 3, 4, 5, 6, 7, 8, 9], [9])])
def spec_l07Code.B1 : List Nat := [0, 0, 0, 4, 12, 12, 12, 124, 252, 511, 1023]
theorem spec_l07Code.tab1 : rtab .any (opsOf Try.f24 1) = spec_l07Code.T1 := by kernel_rfl
theorem spec_l07Code.bits1 : waitsOk spec_l07Code.T1.2 spec_l07Code.B1 = true := by kernel_rfl
theorem spec_l07Code.calls (k : Nat) (a0 : Int) (Ab : Int) (Ac : Int) (Ad : Int) (A2 : Option Addr) (c2 : Nat) (l2 : List (S55)) (a3 : Bool) (r : Int) (w : World) (hr2 : Kd.C k55 w A2 l2.length l2) (hc2 : l2.length ≤ c2) (h : spec_l07Code.f k a0 Ab Ac Ad l2 a3 = some r) :
  Calls Try.prog 24 #[.int .i64 a0, .agg #[.int .i64 Ab, .int .i64 Ac, .int .i64 Ad], .slice A2 l2.length c2, .bool a3] w fun e w' => e = .returned (.int .i64 r) ∧ Below w.heap.size w w' := by
 have hu25 := Try.underlying25
 have HR2 := Aside0.mk hr2
 have Aj := Aside0.mk hc2
 clear hr2 hc2
 have HB := asd (Below.refl w.heap.size w)
 have H : (if a3 = true then ((spec_IsGroup.f k a0 Ab Ac Ad l2).bind fun Ae => ((spec_l06Code.f a0 Ab Ac Ad Ae).bind fun Ag => (some Ag))) else ((spec_l06Code.f a0 Ab Ac Ad false).bind fun Ah => (some Ah))) = some r := h
 clear h
 by_cases c5 : a3 = true
 subst c5
 replace H := ifT H
 obtain ⟨Ae, A6, H⟩ := ob H
 try dsimp only at H
 obtain ⟨Ag, A7, H⟩ := ob H
 try dsimp only at H
 obtain rfl := Option.some.inj H
 rotate_left
 replace c5 := Bool.eq_false_iff.mpr c5
 subst c5
 replace H := ifF H
 obtain ⟨Ah, A7, H⟩ := ob H
 try dsimp only at H
 obtain rfl := Option.some.inj H
 rotate_left
 all_goals
  go_enter Try.func24, Try.ntmps24
  try go_wp2_with (first | ((with_reducible refine gd 5 rfl ?_); refine bx #[.int .i64 Ab, .int .i64 Ac, .int .i64 Ad] 25 ?_; intro Ai hg w8 Aa hb; have Af := ngw0 hg HB; replace HB := bS0 HB hb; clear hb hg))
  replace Aa := asd (blk_drew Aa.out);replace HB := asd (qm HB.out);refine sh 11 (eb3 Aa) (fun hHeld => ?_); refine with_tabW spec_l07Code.tab1 spec_l07Code.bits1 (fun HT_ HW_ => ?_);generalize w8.drew = w9 at Aa HB hHeld ⊢;refine pu 0 (some 9) (bT 11 1) HT_ ?_;refine pu 2 (some 11) (bs 11 5) HT_ ?_;refine pu 3 (some 12) (bs 11 13) HT_ ?_
 focus
  refine pu 4 (some 13) (bs 11 29) HT_ ?_;refine pu 6 (some 15) (bs 11 93) HT_ ?_;refine ta 1 (some 10) (bs 11 95) HT_ HW_ hHeld ?_;refine ta 5 (some 14) (bT 11 7) HT_ HW_ hHeld ?_;refine ro 7 (some 16) (bT 11 8) HT_ (fun K hK => ?_);refine gs Try.func19 #[.int .i64 a0, .agg #[.int .i64 Ab, .int .i64 Ac, .int .i64 Ad], .slice A2 l2.length c2] ?_;with_reducible refine (spec_IsGroup.calls _ _ _ _ _ _ _ _ _ _ ?side1 ?side2 A6.out).mono ?_
  (case side1 => exact ks (Kd.C_below HR2.out HB.out))
  (case side2 => exact Aj.out)
  rintro e Ak ⟨rfl, hb⟩;refine ⟨_, rfl, ?_⟩;replace Aa := bB Aa hb;replace HB := bS1 HB Af hb;(try clear hb);(try clear hb2);(try clear hk);(try clear hi);refine hK.out _ _ (eb3 Aa).out (fun hHeld => ?_);clear hK K;refine norm_ (a' := ?_) ?_ ?_;rotate_left
  ·show Act.put _ (some 16) _ = _
   simp only [Act.put, sA, sB, sC, i64_w, i32_w];rfl
  refine pu 8 (some 17) (bT 11 9) HT_ ?_;refine ro 9 (some 18) (bT 11 10) HT_ (fun K hK => ?_);refine gs Try.func18 #[.int .i64 a0, .agg #[.int .i64 Ab, .int .i64 Ac, .int .i64 Ad], .bool Ae] ?_
 rotate_left
 refine pf 4 (some 13) (bs 11 29) HT_ ?_
 refine pf 5 (some 14) (bs 11 61) HT_ ?_
 refine pf 6 (some 15) (bs 11 125) HT_ ?_
 refine pf 7 (some 16) (bs 11 253) HT_ ?_
 refine pu 8 (some 17) (bs 11 509) HT_ ?_
 refine ta 1 (some 10) (bT 11 9) HT_ HW_ hHeld ?_
 refine ro 9 (some 18) (bT 11 10) HT_ (fun K hK => ?_)
 refine gs Try.func18 #[.int .i64 a0, .agg #[.int .i64 Ab, .int .i64 Ac, .int .i64 Ad], .bool false] ?_
 rotate_left
 all_goals
  with_reducible refine (spec_l06Code.calls _ _ _ _ _ _ _ A7.out).mono ?_
  rintro e Al ⟨rfl, hb⟩;refine ⟨_, rfl, ?_⟩;replace Aa := bB Aa hb;replace HB := bS1 HB Af hb;(try clear hb);(try clear hb2);(try clear hk);(try clear hi);refine hK.out _ _ (eb3 Aa).out (fun hHeld => ?_);clear hK K;refine norm_ (a' := ?_) ?_ ?_;rotate_left
  ·show Act.put _ (some 18) _ = _
   simp only [Act.put, sA, sB, sC, i64_w, i32_w];rfl
  refine pu 10 (some 8) (bT 11 11) HT_ ?_;refine done_ (done_of HT_.out (by kernel_rfl)) ?_;try go_wp2
  go_ret
  exact er (bbw1 HB Af)
def spec_l02Order.l0 : Nat → Int → Int → Int → Int → Int → Int → Int → Int → Int → Option (Int)
 | 0, _, _, _, _, _, _, _, _, _ => none
 | k + 1, x4, Ay, Az, AA, AB, AH, AI, AJ, AK => if x4 ≤ 6 then ((spec_l02Multiply.f Ay Az AA AB AH AI AJ AK).bind fun Ai => ((spec_l02Small.f Ai.1 Ai.2.1 Ai.2.2.1 Ai.2.2.2).bind fun AL => (if AL = true then ((spec_l02Unit.f).bind fun AC => (if (Ai.1 == AC.1 && (Ai.2.1 == AC.2.1 && (Ai.2.2.1 == AC.2.2.1 && (Ai.2.2.2 == AC.2.2.2)))) = true then (some x4) else (spec_l02Order.l0 k (wrap64 (x4 + 1)) Ay Az AA AB Ai.1 Ai.2.1 Ai.2.2.1 Ai.2.2.2))) else (some 0)))) else (some 0)
def spec_l02Order.f (k : Nat) (Al : Int) (Am : Int) (An : Int) (Ao : Int) : Option (Int) := (spec_l02Unit.f).bind fun Ak => (spec_l02Order.l0 k 1 Al Am An Ao Ak.1 Ak.2.1 Ak.2.2.1 Ak.2.2.2)
theorem spec_l02Order.calls (k : Nat) (Al : Int) (Am : Int) (An : Int) (Ao : Int) (r : Int) (w : World) (h : spec_l02Order.f k Al Am An Ao = some r) :
  Calls Try.prog 26 #[.agg #[.int .i64 Al, .int .i64 Am, .int .i64 An, .int .i64 Ao]] w fun e w' => e = .returned (.int .i64 r) ∧ Below w.heap.size w w' := by
 have hu51 := Try.underlying51
 have HB := asd (Below.refl w.heap.size w)
 have H : ((spec_l02Unit.f).bind fun Ak => (spec_l02Order.l0 k 1 Al Am An Ao Ak.1 Ak.2.1 Ak.2.2.1 Ak.2.2.2)) = some r := h
 clear h
 obtain ⟨⟨Bw, Bx, By, Bz⟩, A2, H⟩ := ob H
 try dsimp only at H
 have H' := Aside0.mk H
 clear H
 go_enter Try.func26, Try.ntmps26
 go_wp2_with (first | ((with_reducible refine gd 1 rfl ?_); refine bx #[.int .i64 Al, .int .i64 Am, .int .i64 An, .int .i64 Ao] 51 ?_; intro AD hg w3 Aa hb; have Ac := ngw0 hg HB; replace HB := bS0 HB hb; clear hb hg) | ((with_reducible refine gate_callee (f := 41) rfl ?_); refine gl 5 Try.func41 #[] ?_; (with_reducible refine (spec_l02Unit.calls _ _ _ _ _ A2.out).mono ?_); rintro e w4 ⟨rfl, hb⟩; refine ⟨_, rfl, ?_⟩; replace Aa := bB Aa hb; replace HB := bS1 HB Ac hb; (try clear hb)) | ((with_reducible refine gd 3 rfl ?_); refine bx #[.int .i64 0, .int .i64 0, .int .i64 0, .int .i64 0] 51 ?_; intro AE hg w5 Ab hb; have Aj := ngw1 hg HB Ac; replace HB := bS1 HB Ac hb; have Ad := nlt hg Aa; have At := nsy (nlt hg Aa); replace Aa := bB Aa hb; clear hb hg; have BG := At.out; have BH := Ad.out; obtain ⟨AM, AN, AO, AP, AQ, AR, AS, AT⟩ := bz4 Ab))
 go_loopg [4] k (fun kq v4 w' => ∃ (AF : Int) (Ae : Int) (Af : Int) (Ag : Int) (Ah : Int), v4 = .int .i64 AF ∧ Aside0 (spec_l02Order.l0 kq AF Al Am An Ao Ae Af Ag Ah = some r) ∧ Aside0 (kq ≤ k) ∧ Aside0 (w'.heap[AD]? = some (.cells #[.int .i64 Al, .int .i64 Am, .int .i64 An, .int .i64 Ao] 51 (0, 0))) ∧ Aside0 (w'.heap[AE]? = some (.cells #[.int .i64 Ae, .int .i64 Af, .int .i64 Ag, .int .i64 Ah] 51 (0, 0))) ∧ Aside0 (Below w.heap.size w w'))
 case atStart => exact ⟨(1), (Bw), (Bx), (By), (Bz), (by first | rfl | (simp; done) | (simp [*]; done)), H', ⟨Nat.le_refl _⟩, ⟨bq1 Aa Ad⟩, ⟨bq0 Ab⟩, ⟨bbw2 HB Ac Aj⟩⟩
 case round =>
  clear H';try clear AM
  try clear AN
  try clear AO
  try clear AP
  try clear AQ
  try clear AR
  try clear AS
  try clear AT
  obtain ⟨AF, Ae, Af, Ag, Ah, rfl, HA, BB, Aa, Ab, HB⟩ := hrel;cases gk with
  | zero => exact absurd HA.out (by simp [spec_l02Order.l0])
  | succ k1 =>
   have H := HA.out;clear HA;simp only [spec_l02Order.l0] at H;by_cases c8 : AF ≤ 6
   rw [if_pos c8] at H;have BA := qp c8;clear c8;obtain ⟨⟨Ap, Aq, Ar, As⟩, A9, H⟩ := ob H;try dsimp only at H
   obtain ⟨AL, BC, H⟩ := ob H;try dsimp only at H
   by_cases AX : AL = true
   subst AX;replace H := ifT H;obtain ⟨⟨Au, Av, Aw, Ax⟩, BI, H⟩ := ob H;try dsimp only at H
   by_cases AG : (Ap == Au && (Aq == Av && (Ar == Aw && (As == Ax)))) = true
   rw [if_pos AG] at H;have AU := AG;(try (have AV : decide (Ap = Au && (Aq == Av && (Ar == Aw && (As == Ax)))) = true := by simpa using AG));(try (have AW : (Ap == Au && (Aq == Av && (Ar == Aw && (As == Ax)))) = true := by simpa using AG));clear AG;obtain rfl := Option.some.inj H;rotate_left;rw [if_neg AG] at H;have AU : (Ap == Au && (Aq == Av && (Ar == Aw && (As == Ax)))) = false := by simpa using AG
   (try (have AV : decide (Ap = Au && (Aq == Av && (Ar == Aw && (As == Ax)))) = false := by simpa using AG));(try (have AW : (Ap == Au && (Aq == Av && (Ar == Aw && (As == Ax)))) = false := by simpa using AG));(try (have BD : ¬ (Ap = Au && (Aq == Av && (Ar == Aw && (As == Ax)))) := by simpa using AG));clear AG;have H' := Aside0.mk H;clear H;rotate_left;replace AX := Bool.eq_false_iff.mpr AX;subst AX;replace H := ifF H;obtain rfl := Option.some.inj H;rotate_left;rw [if_neg c8] at H;have BA := qq c8;clear c8;obtain rfl := Option.some.inj H;rotate_left;rotate_left 3
   ·go_wp2
    go_ret
    exact er (bbw2 HB Ac Aj)
   all_goals
    have BE := Ad.out;have BF := At.out;obtain ⟨AY, AZ, A0, A1, A3, A4, A5, A6⟩ := bz4 Aa;obtain ⟨A7, A8, Ba, Bb, Bc, Bd, Be, Bf⟩ := bz4 Ab
   rotate_left 2
   ·go_wp2_with (first | ((with_reducible refine gate_callee (f := 44) rfl ?_); refine gl 12 Try.func44 #[.agg #[.int .i64 Al, .int .i64 Am, .int .i64 An, .int .i64 Ao], .agg #[.int .i64 Ae, .int .i64 Af, .int .i64 Ag, .int .i64 Ah]] ?_; (with_reducible refine (spec_l02Multiply.calls _ _ _ _ _ _ _ _ _ _ _ _ _ A9.out).mono ?_); rintro e BK ⟨rfl, hb⟩; refine ⟨_, rfl, ?_⟩; replace Aa := bB Aa hb; replace Ab := bB Ab hb; replace HB := bS2 HB Ac Aj hb; (try clear hb); obtain ⟨Bg, Bh, Bi, Bj, Bk, Bl, Bm, Bn⟩ := bz4 Ab) | ((with_reducible refine gate_callee (f := 45) rfl ?_); refine gl 14 Try.func45 #[.agg #[.int .i64 Ap, .int .i64 Aq, .int .i64 Ar, .int .i64 As]] ?_; (with_reducible refine (spec_l02Small.calls _ _ _ _ _ _ BC.out).mono ?_); rintro e BL ⟨rfl, hb⟩; refine ⟨_, rfl, ?_⟩; replace Aa := asd (blk_below (g := AD) (o := .cells #[.int .i64 Al, .int .i64 Am, .int .i64 An, .int .i64 Ao] 51 (0, 0)) (bq1 Aa Ad) hb); replace Ab := asd (blk_below (g := AE) (o := .cells #[.int .i64 Ap, .int .i64 Aq, .int .i64 Ar, .int .i64 As] 51 (0, 0)) (bq0 Ab) hb); replace HB := bS2 HB Ac Aj hb; (try clear hb)));go_ret
    exact er (bbw2 HB Ac Aj)
   all_goals
    try go_wp2_with (first | ((with_reducible refine gate_callee (f := 44) rfl ?_); refine gl 12 Try.func44 #[.agg #[.int .i64 Al, .int .i64 Am, .int .i64 An, .int .i64 Ao], .agg #[.int .i64 Ae, .int .i64 Af, .int .i64 Ag, .int .i64 Ah]] ?_; (with_reducible refine (spec_l02Multiply.calls _ _ _ _ _ _ _ _ _ _ _ _ _ A9.out).mono ?_); rintro e BM ⟨rfl, hb⟩; refine ⟨_, rfl, ?_⟩; replace Aa := bB Aa hb; replace Ab := bB Ab hb; replace HB := bS2 HB Ac Aj hb; (try clear hb); obtain ⟨Bo, Bp, Bq, Br, Bs, Bt, Bu, Bv⟩ := bz4 Ab) | ((with_reducible refine gate_callee (f := 45) rfl ?_); refine gl 14 Try.func45 #[.agg #[.int .i64 Ap, .int .i64 Aq, .int .i64 Ar, .int .i64 As]] ?_; (with_reducible refine (spec_l02Small.calls _ _ _ _ _ _ BC.out).mono ?_); rintro e BJ ⟨rfl, hb⟩; refine ⟨_, rfl, ?_⟩; replace Aa := asd (blk_below (g := AD) (o := .cells #[.int .i64 Al, .int .i64 Am, .int .i64 An, .int .i64 Ao] 51 (0, 0)) (bq1 Aa Ad) hb); replace Ab := asd (blk_below (g := AE) (o := .cells #[.int .i64 Ap, .int .i64 Aq, .int .i64 Ar, .int .i64 As] 51 (0, 0)) (bq0 Ab) hb); replace HB := bS2 HB Ac Aj hb; (try clear hb)))
    replace Aa := asd (blk_drew Aa.out);replace Ab := asd (blk_drew Ab.out);replace HB := asd (qm HB.out);refine sh 3 (eb4 Ab) (fun hHeld => ?_);generalize BJ.drew = BN at Aa Ab HB hHeld ⊢;refine take_ (i := 0) (N := some 16) (v := ?_) (a' := ?_) (bT 3 1) rfl rfl (by kernel_rfl) (fun _ _ _ h => h) (Or.inl ⟨by rfl, ?_⟩) hHeld ?_ ?_;rotate_left
    ·rintro w' ⟨s0, s1, s2, s3⟩;go_simp;with_reducible rfl
    rotate_left
    ·simp only [Act.put, sA, sB, sC, i64_w, i32_w];rfl
    refine one_ (i := 1) (N := some 17) (bT 3 2) rfl rfl (by kernel_rfl) (by decide) (fun K hK => ?_);refine gs Try.func41 #[] ?_;with_reducible refine (spec_l02Unit.calls _ _ _ _ _ BI.out).mono ?_
    rintro e BO ⟨rfl, hb⟩;refine ⟨_, rfl, ?_⟩;replace Aa := bB Aa hb;replace Ab := bB Ab hb;replace HB := bS2 HB Ac Aj hb;(try clear hb);(try clear hb2);(try clear hk);(try clear hi);refine hK.out _ _ (eb4 Ab).out (fun hHeld => ?_);clear hK K;refine norm_ (a' := ?_) ?_ ?_;rotate_left
    ·show Act.put _ (some 17) _ = _
     simp only [Act.put, sA, sB, sC, i64_w, i32_w];rfl
    refine pure_ (i := 2) (N := some 18) (v := ?_) (a' := ?_) (bT 3 3) rfl rfl (by kernel_rfl) (fun _ _ _ h => h) (Or.inl ⟨by rfl, ?_⟩) ?_ ?_;rotate_left
    ·intro w';go_simp;with_reducible rfl
    rotate_left
    ·simp only [Act.put, sA, sB, sC, i64_w, i32_w];rfl
    refine done_ (by kernel_rfl) ?_;try go_wp2
   ·go_ret
    exact er (bbw2 HB Ac Aj)
   ·go_roundg k1
    case measure => have := BB.out; omega
    case rel => exact ⟨(wrap64 (AF + 1)), (Ap), (Aq), (Ar), (As), (by first | rfl | (simp; done) | (simp [*]; done)), H', ⟨by have := BB.out; omega⟩, ⟨bkp Aa⟩, ⟨bkp Ab⟩, ⟨bbw2 HB Ac Aj⟩⟩
attribute [local go_sem high] eqA51 eqA53
def spec_RotationOrder.l0 : Nat → List (S55) → Int → Int → Option (Int × Int)
 | 0, _, _, _ => none
 | k + 1, x2, x9, Ak => if Ak < (x2.length : Int) then (if 0 ≤ Ak then ((spec_l02Det.f ((qr x2 Ak).f0.f0) ((qr x2 Ak).f0.f1) ((qr x2 Ak).f0.f2) ((qr x2 Ak).f0.f3)).bind fun Ai => (if Ai = 1 then ((spec_l02Order.f k ((qr x2 Ak).f0.f0) ((qr x2 Ak).f0.f1) ((qr x2 Ak).f0.f2) ((qr x2 Ak).f0.f3)).bind fun Al => (spec_RotationOrder.l0 k x2 (mx x9 Al) (wrap64 (Ak + 1)))) else (spec_RotationOrder.l0 k x2 x9 (wrap64 (Ak + 1))))) else (none)) else (some (x9, 0))
def spec_RotationOrder.f (k : Nat) (a0 : Int) (Af : Int) (Ag : Int) (Ah : Int) (l2 : List (S55)) : Option (Int × Int) := (spec_l07Code.f k a0 Af Ag Ah l2 true).bind fun Ad => (if Ad = 0 then (spec_RotationOrder.l0 k l2 1 0) else (some (0, Ad)))
theorem spec_RotationOrder.calls (k : Nat) (a0 : Int) (Af : Int) (Ag : Int) (Ah : Int) (A2 : Option Addr) (c2 : Nat) (l2 : List (S55)) (r1 : Int) (r2 : Int) (w : World) (hr2 : Kd.C k55 w A2 l2.length l2) (hc2 : l2.length ≤ c2) (h : spec_RotationOrder.f k a0 Af Ag Ah l2 = some (r1, r2)) :
  Calls Try.prog 11 #[.int .i64 a0, .agg #[.int .i64 Af, .int .i64 Ag, .int .i64 Ah], .slice A2 l2.length c2] w fun e w' => e = .returned (.tuple #[.int .i64 r1, .int .i64 r2]) ∧ Below w.heap.size w w' := by
 have hu25 := Try.underlying25
 have hu51 := Try.underlying51
 have HR2 := Aside0.mk hr2
 have AS := Aside0.mk hc2
 clear hr2 hc2
 have HB := asd (Below.refl w.heap.size w)
 have H : ((spec_l07Code.f k a0 Af Ag Ah l2 true).bind fun Ad => (if Ad = 0 then (spec_RotationOrder.l0 k l2 1 0) else (some (0, Ad)))) = some (r1, r2) := h
 clear h
 obtain ⟨Ad, A4, H⟩ := ob H
 try dsimp only at H
 by_cases c5 : Ad = 0
 rw [if_pos c5] at H
 have Au : (Ad == 0) = true := beq_iff_eq.mpr c5
 have Av : (Ad != 0) = false := bne_eq_false_iff_eq.mpr c5
 clear c5
 have H' := Aside0.mk H
 clear H
 rotate_left
 rw [if_neg c5] at H
 have Au : (Ad == 0) = false := beq_eq_false_iff_ne.mpr c5
 have Av : (Ad != 0) = true := bne_iff_ne.mpr c5
 rotate_left
 rotate_left
 simp only [Option.some.injEq, Prod.mk.injEq] at H
 obtain ⟨rfl, rfl⟩ := H
 rotate_left
 all_goals
  go_enter Try.func11, Try.ntmps11
  go_wp2_with (first | ((with_reducible refine gd 4 rfl ?_); refine bx #[.int .i64 Af, .int .i64 Ag, .int .i64 Ah] 25 ?_; intro Aw hg w6 Ab hb; have Ac := ngw0 hg HB; replace HB := bS0 HB hb; clear hb hg; obtain ⟨Am, An, Ao, Ap, Aq, Ar⟩ := bz3 Ab) | ((with_reducible refine gate_callee (f := 24) rfl ?_); refine gl 14 Try.func24 #[.int .i64 a0, .agg #[.int .i64 Af, .int .i64 Ag, .int .i64 Ah], .slice A2 l2.length c2, .bool true] ?_; (with_reducible refine (spec_l07Code.calls _ _ _ _ _ _ _ _ _ _ _ ?side1 ?side2 A4.out).mono ?_); (case side1 => exact ks (Kd.C_below HR2.out HB.out)); (case side2 => exact AS.out); rintro e w8 ⟨rfl, hb⟩; refine ⟨_, rfl, ?_⟩; replace Ab := bB Ab hb; replace HB := bS1 HB Ac hb; (try clear hb)))
 ·go_loopg [9, 10] k (fun kq v9 v10 w' => ∃ (Aj : Int) (Aa : Int), v9 = .int .i64 Aj ∧ v10 = .int .i64 Aa ∧ Aside0 (spec_RotationOrder.l0 kq l2 Aj Aa = some (r1, r2)) ∧ Aside0 (kq ≤ k) ∧ Aside0 (w'.heap[Aw]? = some (.cells #[.int .i64 Af, .int .i64 Ag, .int .i64 Ah] 25 (0, 0))) ∧ Aside0 (Below w.heap.size w w'))
  case atStart => exact ⟨(1), (0), (by first | rfl | (simp; done) | (simp [*]; done)), (by first | rfl | (simp; done) | (simp [*]; done)), H', ⟨Nat.le_refl _⟩, ⟨bkp Ab⟩, ⟨bbw1 HB Ac⟩⟩
  case round =>
   clear H';try clear c2
   try clear c5
   try clear Au
   try clear Av
   try clear Am
   try clear An
   try clear Ao
   try clear Ap
   try clear Aq
   try clear Ar
   obtain ⟨Aj, Aa, rfl, rfl, HA, Az, Ab, HB⟩ := hrel;cases gk with
   | zero => exact absurd HA.out (by simp [spec_RotationOrder.l0])
   | succ k1 =>
    have H := HA.out;clear HA;simp only [spec_RotationOrder.l0] at H;by_cases c9 : Aa < (l2.length : Int)
    rw [if_pos c9] at H;have AN := qp c9;clear c9;by_cases AA : 0 ≤ Aa
    rw [if_pos AA] at H;have AQ := qp AA;clear AA;obtain ⟨Ai, AO, H⟩ := ob H;(try dsimp only at H);by_cases As : Ai = 1
    rw [if_pos As] at H;have Ax : (Ai == 1) = true := beq_iff_eq.mpr As;have Ay : (Ai != 1) = false := bne_eq_false_iff_eq.mpr As;clear As;obtain ⟨Al, AR, H⟩ := ob H;(try dsimp only at H);obtain ⟨At, Ae⟩ : ∃ j_ : Int, (mx Aj Al) = j_ := ⟨_, rfl⟩;replace H : (spec_RotationOrder.l0 k1 l2 At (wrap64 (Aa + 1))) = some (r1, r2) := by first | (rw [Ae] at H; first | done | exact H) | (simp only [Ae] at H ⊢; exact H)
    (try rw [Ae] at AO);(try rw [Ae] at AR);have AP : (if Aj < Al then Al else Aj) = At := Ae;have H' := Aside0.mk H;clear H;rotate_left;rw [if_neg As] at H;have Ax : (Ai == 1) = false := beq_eq_false_iff_ne.mpr As;have Ay : (Ai != 1) = true := bne_iff_ne.mpr As;have H' := Aside0.mk H;clear H;rotate_left
    ·rw [if_neg AA] at H;exact absurd H (by simp)
    rw [if_neg c9] at H;have AN := qq c9;clear c9;rotate_left;rotate_left 2
    ·simp only [Option.some.injEq, Prod.mk.injEq] at H;obtain ⟨rfl, rfl⟩ := H;go_wp2
     go_ret2
     exact er (bbw1 HB Ac)
    all_goals
     obtain ⟨p794, q794, ad794, e794, AB, AC, AD, AE, AF, AG⟩ := at_T55x HR2.out HB Aa;cases e794
    ·go_wp2_with (first | ((with_reducible refine gate_callee (f := 25) rfl ?_); refine gl 29 Try.func25 #[.agg #[.int .i64 ((qr l2 Aa).f0.f0), .int .i64 ((qr l2 Aa).f0.f1), .int .i64 ((qr l2 Aa).f0.f2), .int .i64 ((qr l2 Aa).f0.f3)]] ?_; (with_reducible refine (spec_l02Det.calls _ _ _ _ _ _ AO.out).mono ?_); rintro e AT ⟨rfl, hb⟩; refine ⟨_, rfl, ?_⟩; replace Ab := bB Ab hb; replace HB := bS1 HB Ac hb; (try clear hb); obtain ⟨p796, q796, ad796, e796, AH, AI, AJ, AK, AL, AM⟩ := at_T55x HR2.out HB Aa; obtain rfl : ad794 = ad796 := (by injection e796)) | ((with_reducible refine gate_callee (f := 26) rfl ?_); refine gl 37 Try.func26 #[.agg #[.int .i64 ((qr l2 Aa).f0.f0), .int .i64 ((qr l2 Aa).f0.f1), .int .i64 ((qr l2 Aa).f0.f2), .int .i64 ((qr l2 Aa).f0.f3)]] ?_; (with_reducible refine (spec_l02Order.calls _ _ _ _ _ _ _ AR.out).mono ?_); rintro e AU ⟨rfl, hb⟩; refine ⟨_, rfl, ?_⟩; replace Ab := bB Ab hb; replace HB := bS1 HB Ac hb; (try clear hb)));go_roundg k1
     case measure => have := Az.out; omega
     case rel => exact ⟨(At), (wrap64 (Aa + 1)), (by first | rfl | (simp; done) | (simp only [← Ae] <;> (first | rfl | simp)) | (simp [*]; done)), (by first | rfl | (simp; done) | (simp [*]; done)), H', ⟨by have := Az.out; omega⟩, ⟨bkp Ab⟩, ⟨bbw1 HB Ac⟩⟩
    ·go_wp2_with (first | ((with_reducible refine gate_callee (f := 25) rfl ?_); refine gl 29 Try.func25 #[.agg #[.int .i64 ((qr l2 Aa).f0.f0), .int .i64 ((qr l2 Aa).f0.f1), .int .i64 ((qr l2 Aa).f0.f2), .int .i64 ((qr l2 Aa).f0.f3)]] ?_; (with_reducible refine (spec_l02Det.calls _ _ _ _ _ _ AO.out).mono ?_); rintro e AV ⟨rfl, hb⟩; refine ⟨_, rfl, ?_⟩; replace Ab := bB Ab hb; replace HB := bS1 HB Ac hb; (try clear hb)));go_roundg k1
     case measure => have := Az.out; omega
     case rel => exact ⟨(Aj), (wrap64 (Aa + 1)), (by first | rfl | (simp; done) | (simp [*]; done)), (by first | rfl | (simp; done) | (simp [*]; done)), H', ⟨by have := Az.out; omega⟩, ⟨bkp Ab⟩, ⟨bbw1 HB Ac⟩⟩
 ·go_ret2
  exact er (bbw1 HB Ac)
def laws_likeMats9.l0 : Nat → List (S51) → List (S51) → Int → Option (Bool)
 | 0, _, _, _ => none
 | k + 1, x0, x1, x5 => if x5 < (x0.length : Int) then (if 0 ≤ x5 then (if x5 < (x1.length : Int) then (if (!(((rd_T51 x0 x5).f0) == ((rd_T51 x1 x5).f0)) || (!(((rd_T51 x0 x5).f1) == ((rd_T51 x1 x5).f1)) || (!(((rd_T51 x0 x5).f2) == ((rd_T51 x1 x5).f2)) || (!(((rd_T51 x0 x5).f3) == ((rd_T51 x1 x5).f3)))))) = true then (some false) else (laws_likeMats9.l0 k x0 x1 (wrap64 (x5 + 1)))) else (none)) else (none)) else (some true)
def laws_likeMats9.f (k : Nat) (l0 : List (S51)) (l1 : List (S51)) : Option (Bool) := if (l0.length : Int) = (l1.length : Int) then (laws_likeMats9.l0 k l0 l1 0) else (some false)
theorem laws_likeMats9.calls (k : Nat) (A0 : Option Addr) (c0 : Nat) (l0 : List (S51)) (A1 : Option Addr) (c1 : Nat) (l1 : List (S51)) (r : Bool) (w : World) (hr0 : Kd.C k51 w A0 l0.length l0) (hc0 : l0.length ≤ c0) (hr1 : Kd.C k51 w A1 l1.length l1) (hc1 : l1.length ≤ c1) (h : laws_likeMats9.f k l0 l1 = some r) :
  Calls Try.prog 12 #[.slice A0 l0.length c0, .slice A1 l1.length c1] w fun e w' => e = .returned (.bool r) ∧ Drawn0 w w' := by
 have hu51 := Try.underlying51
 have HR0 := Aside0.mk hr0
 have Ar := Aside0.mk hc0
 clear hr0 hc0
 have HR1 := Aside0.mk hr1
 have As := Aside0.mk hc1
 clear hr1 hc1
 have H : (if (l0.length : Int) = (l1.length : Int) then (laws_likeMats9.l0 k l0 l1 0) else (some false)) = some r := h
 clear h
 by_cases c3 : (l0.length : Int) = (l1.length : Int)
 ·rw [if_pos c3] at H;have Ab : ((l0.length : Int) == (l1.length : Int)) = true := beq_iff_eq.mpr c3;have Ac : ((l0.length : Int) != (l1.length : Int)) = false := bne_eq_false_iff_eq.mpr c3;have Ad : (l0.length == l1.length) = true := by first | simpa using c3 | (simp at c3 ⊢; omega)
  clear c3;have H' := Aside0.mk H;clear H;go_enter Try.func12, Try.ntmps12
  go_wp2
  repeat (go_quiet (fail); try go_wp2)
  go_loopg [5] k (fun kq v5 w' => ∃ (Aa : Int), v5 = .int .i64 Aa ∧ Aside0 (laws_likeMats9.l0 kq l0 l1 Aa = some r) ∧ Aside0 (kq ≤ k) ∧ Drawn0 w w')
  case atStart => exact ⟨(0), (by first | rfl | (simp; done) | (simp [*]; done)), H', ⟨Nat.le_refl _⟩, by repeat (first | exact Drawn0.refl _ | apply Drawn0.step)⟩
  case round =>
   clear H';try clear c1
   try clear c3
   try clear Ab
   try clear Ac
   try clear Ad
   obtain ⟨Aa, rfl, HA, Ao, ⟨m1, rfl⟩⟩ := hrel;cases gk with
   | zero => exact absurd HA.out (by simp [laws_likeMats9.l0])
   | succ k1 =>
    have H := HA.out;clear HA;simp only [laws_likeMats9.l0] at H;by_cases c4 : Aa < (l0.length : Int)
    rw [if_pos c4] at H;have Am := qp c4;clear c4;by_cases c5 : 0 ≤ Aa
    rw [if_pos c5] at H;have Ap := qp c5;clear c5;by_cases c6 : Aa < (l1.length : Int)
    rw [if_pos c6] at H;have Aq := qp c6;clear c6;by_cases c7 : (!(((rd_T51 l0 Aa).f0) == ((rd_T51 l1 Aa).f0)) || (!(((rd_T51 l0 Aa).f1) == ((rd_T51 l1 Aa).f1)) || (!(((rd_T51 l0 Aa).f2) == ((rd_T51 l1 Aa).f2)) || (!(((rd_T51 l0 Aa).f3) == ((rd_T51 l1 Aa).f3)))))) = true
    rw [if_pos c7] at H;have An := c7;clear c7;obtain rfl := Option.some.inj H;rotate_left;rw [if_neg c7] at H;have An : (!(((rd_T51 l0 Aa).f0) == ((rd_T51 l1 Aa).f0)) || (!(((rd_T51 l0 Aa).f1) == ((rd_T51 l1 Aa).f1)) || (!(((rd_T51 l0 Aa).f2) == ((rd_T51 l1 Aa).f2)) || (!(((rd_T51 l0 Aa).f3) == ((rd_T51 l1 Aa).f3)))))) = false := by simpa using c7
    clear c7;have H' := Aside0.mk H;clear H;rotate_left
    ·rw [if_neg c6] at H;exact absurd H (by simp)
    ·rw [if_neg c5] at H;exact absurd H (by simp)
    rw [if_neg c4] at H;have Am := qq c4;clear c4;obtain rfl := Option.some.inj H;rotate_left;rotate_left 2
    ·go_wp2
     repeat (go_quiet (fail); try go_wp2)
     go_ret
     exact ⟨by first | rfl | (simp; done) | (simp [*]; done), by repeat (first | exact Drawn0.refl _ | apply Drawn0.step)⟩
    all_goals
     have p798 : 0 ≤ (Aa : Int) := od;have q798 : Aa < (l0.length : Int) := od;obtain ⟨ad798, e798, Ae, Af, Ag, Ah⟩ := at_T51 HR0.out Aa p798 q798;cases e798
     replace p798 := eq_true p798;replace q798 := eq_true q798;have p799 : 0 ≤ (Aa : Int) := od;have q799 : Aa < (l1.length : Int) := od;obtain ⟨ad799, e799, Ai, Aj, Ak, Al⟩ := at_T51 HR1.out Aa p799 q799;cases e799
     replace p799 := eq_true p799;replace q799 := eq_true q799;go_wp2
     repeat (go_quiet (fail); try go_wp2)
    ·go_ret
     exact ⟨by first | rfl | (simp; done) | (simp [*]; done), by repeat (first | exact Drawn0.refl _ | apply Drawn0.step)⟩
    ·go_roundg k1
     case measure => have := Ao.out; omega
     case rel => exact ⟨(wrap64 (Aa + 1)), (by first | rfl | (simp; done) | (simp [*]; done)), H', ⟨by have := Ao.out; omega⟩, by repeat (first | exact Drawn0.refl _ | apply Drawn0.step)⟩
 ·rw [if_neg c3] at H;have Ab : ((l0.length : Int) == (l1.length : Int)) = false := beq_eq_false_iff_ne.mpr c3;have Ac : ((l0.length : Int) != (l1.length : Int)) = true := bne_iff_ne.mpr c3;have Ad : (l0.length == l1.length) = false := by first | simpa using c3 | (simp at c3 ⊢; omega)
  obtain rfl := Option.some.inj H;go_enter Try.func12, Try.ntmps12
  go_wp2
  repeat (go_quiet (fail); try go_wp2)
  go_ret
  exact ⟨by first | rfl | (simp; done) | (simp [*]; done), by repeat (first | exact Drawn0.refl _ | apply Drawn0.step)⟩
def laws_likeVecs9.l0 : Nat → List (S53) → List (S53) → Int → Option (Bool)
 | 0, _, _, _ => none
 | k + 1, x0, x1, x5 => if x5 < (x0.length : Int) then (if 0 ≤ x5 then (if x5 < (x1.length : Int) then (if (!(((rd_T53 x0 x5).f0) == ((rd_T53 x1 x5).f0)) || (!(((rd_T53 x0 x5).f1) == ((rd_T53 x1 x5).f1)))) = true then (some false) else (laws_likeVecs9.l0 k x0 x1 (wrap64 (x5 + 1)))) else (none)) else (none)) else (some true)
def laws_likeVecs9.f (k : Nat) (l0 : List (S53)) (l1 : List (S53)) : Option (Bool) := if (l0.length : Int) = (l1.length : Int) then (laws_likeVecs9.l0 k l0 l1 0) else (some false)
theorem laws_likeVecs9.calls (k : Nat) (A0 : Option Addr) (c0 : Nat) (l0 : List (S53)) (A1 : Option Addr) (c1 : Nat) (l1 : List (S53)) (r : Bool) (w : World) (hr0 : Kd.C k53 w A0 l0.length l0) (hc0 : l0.length ≤ c0) (hr1 : Kd.C k53 w A1 l1.length l1) (hc1 : l1.length ≤ c1) (h : laws_likeVecs9.f k l0 l1 = some r) :
  Calls Try.prog 13 #[.slice A0 l0.length c0, .slice A1 l1.length c1] w fun e w' => e = .returned (.bool r) ∧ Drawn0 w w' := by
 have hu53 := Try.underlying53
 have HR0 := Aside0.mk hr0
 have An := Aside0.mk hc0
 clear hr0 hc0
 have HR1 := Aside0.mk hr1
 have Ao := Aside0.mk hc1
 clear hr1 hc1
 have H : (if (l0.length : Int) = (l1.length : Int) then (laws_likeVecs9.l0 k l0 l1 0) else (some false)) = some r := h
 clear h
 by_cases c3 : (l0.length : Int) = (l1.length : Int)
 ·rw [if_pos c3] at H;have Ab : ((l0.length : Int) == (l1.length : Int)) = true := beq_iff_eq.mpr c3;have Ac : ((l0.length : Int) != (l1.length : Int)) = false := bne_eq_false_iff_eq.mpr c3;have Ad : (l0.length == l1.length) = true := by first | simpa using c3 | (simp at c3 ⊢; omega)
  clear c3;have H' := Aside0.mk H;clear H;go_enter Try.func13, Try.ntmps13
  go_wp2
  repeat (go_quiet (fail); try go_wp2)
  go_loopg [5] k (fun kq v5 w' => ∃ (Aa : Int), v5 = .int .i64 Aa ∧ Aside0 (laws_likeVecs9.l0 kq l0 l1 Aa = some r) ∧ Aside0 (kq ≤ k) ∧ Drawn0 w w')
  case atStart => exact ⟨(0), (by first | rfl | (simp; done) | (simp [*]; done)), H', ⟨Nat.le_refl _⟩, by repeat (first | exact Drawn0.refl _ | apply Drawn0.step)⟩
  case round =>
   clear H';try clear c1
   try clear c3
   try clear Ab
   try clear Ac
   try clear Ad
   obtain ⟨Aa, rfl, HA, Ak, ⟨m1, rfl⟩⟩ := hrel;cases gk with
   | zero => exact absurd HA.out (by simp [laws_likeVecs9.l0])
   | succ k1 =>
    have H := HA.out;clear HA;simp only [laws_likeVecs9.l0] at H;by_cases c4 : Aa < (l0.length : Int)
    rw [if_pos c4] at H;have Ai := qp c4;clear c4;by_cases c5 : 0 ≤ Aa
    rw [if_pos c5] at H;have Al := qp c5;clear c5;by_cases c6 : Aa < (l1.length : Int)
    rw [if_pos c6] at H;have Am := qp c6;clear c6;by_cases c7 : (!(((rd_T53 l0 Aa).f0) == ((rd_T53 l1 Aa).f0)) || (!(((rd_T53 l0 Aa).f1) == ((rd_T53 l1 Aa).f1)))) = true
    rw [if_pos c7] at H;have Aj := c7;clear c7;obtain rfl := Option.some.inj H;rotate_left;rw [if_neg c7] at H;have Aj : (!(((rd_T53 l0 Aa).f0) == ((rd_T53 l1 Aa).f0)) || (!(((rd_T53 l0 Aa).f1) == ((rd_T53 l1 Aa).f1)))) = false := by simpa using c7
    clear c7;have H' := Aside0.mk H;clear H;rotate_left
    ·rw [if_neg c6] at H;exact absurd H (by simp)
    ·rw [if_neg c5] at H;exact absurd H (by simp)
    rw [if_neg c4] at H;have Ai := qq c4;clear c4;obtain rfl := Option.some.inj H;rotate_left;rotate_left 2
    ·go_wp2
     repeat (go_quiet (fail); try go_wp2)
     go_ret
     exact ⟨by first | rfl | (simp; done) | (simp [*]; done), by repeat (first | exact Drawn0.refl _ | apply Drawn0.step)⟩
    all_goals
     have p800 : 0 ≤ (Aa : Int) := od;have q800 : Aa < (l0.length : Int) := od;obtain ⟨ad800, e800, Ae, Af⟩ := at_T53 HR0.out Aa p800 q800;cases e800
     replace p800 := eq_true p800;replace q800 := eq_true q800;have p801 : 0 ≤ (Aa : Int) := od;have q801 : Aa < (l1.length : Int) := od;obtain ⟨ad801, e801, Ag, Ah⟩ := at_T53 HR1.out Aa p801 q801;cases e801
     replace p801 := eq_true p801;replace q801 := eq_true q801;go_wp2
     repeat (go_quiet (fail); try go_wp2)
    ·go_ret
     exact ⟨by first | rfl | (simp; done) | (simp [*]; done), by repeat (first | exact Drawn0.refl _ | apply Drawn0.step)⟩
    ·go_roundg k1
     case measure => have := Ak.out; omega
     case rel => exact ⟨(wrap64 (Aa + 1)), (by first | rfl | (simp; done) | (simp [*]; done)), H', ⟨by have := Ak.out; omega⟩, by repeat (first | exact Drawn0.refl _ | apply Drawn0.step)⟩
 ·rw [if_neg c3] at H;have Ab : ((l0.length : Int) == (l1.length : Int)) = false := beq_eq_false_iff_ne.mpr c3;have Ac : ((l0.length : Int) != (l1.length : Int)) = true := bne_iff_ne.mpr c3;have Ad : (l0.length == l1.length) = false := by first | simpa using c3 | (simp at c3 ⊢; omega)
  obtain rfl := Option.some.inj H;go_enter Try.func13, Try.ntmps13
  go_wp2
  repeat (go_quiet (fail); try go_wp2)
  go_ret
  exact ⟨by first | rfl | (simp; done) | (simp [*]; done), by repeat (first | exact Drawn0.refl _ | apply Drawn0.step)⟩
def laws_FnPointParts.f (k : Nat) (l0 : List Int) : Option (Bool) := (laws_big.f l0).bind fun Ax => (if Ax = true then (some true) else ((spec_DrawPointPart.f k l0).bind fun Aa => ((impl_PointPart.f k Aa.1 Aa.2.1 Aa.2.2.1 Aa.2.2.2.1 Aa.2.2.2.2).bind fun Ah => ((spec_PointPart.f k Aa.1 Aa.2.1 Aa.2.2.1 Aa.2.2.2.1 Aa.2.2.2.2).bind fun Ar => ((impl_ShiftsOf.f k Aa.1 Aa.2.1 Aa.2.2.1 Aa.2.2.2.1 Aa.2.2.2.2).bind fun Ai => ((spec_ShiftsOf.f k Aa.1 Aa.2.1 Aa.2.2.1 Aa.2.2.2.1 Aa.2.2.2.2).bind fun As => ((impl_RotationOrder.f k Aa.1 Aa.2.1 Aa.2.2.1 Aa.2.2.2.1 Aa.2.2.2.2).bind fun At => ((spec_RotationOrder.f k Aa.1 Aa.2.1 Aa.2.2.1 Aa.2.2.2.1 Aa.2.2.2.2).bind fun Au => (if Ah.2 = Ar.2 then ((laws_likeMats9.f k Ah.1 Ar.1).bind fun Ay => (if Ay = true then (if Ai.2 = As.2 then ((laws_likeVecs9.f k Ai.1 As.1).bind fun Az => (if Az = true then (if At.2 = Au.2 then (if At.1 = Au.1 then (if Ah.2 = 0 then (if Ai.2 = 0 then (some ((wrap64 ((Ah.1.length : Int) * (Ai.1.length : Int))) == (Aa.2.2.2.2.length : Int))) else (some false)) else (some true)) else (some false)) else (some false)) else (some false))) else (some false)) else (some false))) else (some false))))))))))
theorem laws_FnPointParts.calls (k : Nat) (A0 : Option Addr) (c0 : Nat) (l0 : List Int) (w : World) (hr0 : Kd.C (Kd.int .u8) w A0 l0.length l0) (hc0 : l0.length ≤ c0) (h : laws_FnPointParts.f k l0 = some true) :
  Calls Try.prog 3 #[.slice A0 l0.length c0] w fun e w' => e = .returned (.bool true) ∧ Below w.heap.size w w' := by
 have hu25 := Try.underlying25
 have HR0 := Aside0.mk hr0
 have BP := Aside0.mk hc0
 clear hr0 hc0
 have HB := asd (Below.refl w.heap.size w)
 have H : ((laws_big.f l0).bind fun Ax => (if Ax = true then (some true) else ((spec_DrawPointPart.f k l0).bind fun Aa => ((impl_PointPart.f k Aa.1 Aa.2.1 Aa.2.2.1 Aa.2.2.2.1 Aa.2.2.2.2).bind fun Ah => ((spec_PointPart.f k Aa.1 Aa.2.1 Aa.2.2.1 Aa.2.2.2.1 Aa.2.2.2.2).bind fun Ar => ((impl_ShiftsOf.f k Aa.1 Aa.2.1 Aa.2.2.1 Aa.2.2.2.1 Aa.2.2.2.2).bind fun Ai => ((spec_ShiftsOf.f k Aa.1 Aa.2.1 Aa.2.2.1 Aa.2.2.2.1 Aa.2.2.2.2).bind fun As => ((impl_RotationOrder.f k Aa.1 Aa.2.1 Aa.2.2.1 Aa.2.2.2.1 Aa.2.2.2.2).bind fun At => ((spec_RotationOrder.f k Aa.1 Aa.2.1 Aa.2.2.1 Aa.2.2.2.1 Aa.2.2.2.2).bind fun Au => (if Ah.2 = Ar.2 then ((laws_likeMats9.f k Ah.1 Ar.1).bind fun Ay => (if Ay = true then (if Ai.2 = As.2 then ((laws_likeVecs9.f k Ai.1 As.1).bind fun Az => (if Az = true then (if At.2 = Au.2 then (if At.1 = Au.1 then (if Ah.2 = 0 then (if Ai.2 = 0 then (some ((wrap64 ((Ah.1.length : Int) * (Ai.1.length : Int))) == (Aa.2.2.2.2.length : Int))) else (some false)) else (some true)) else (some false)) else (some false)) else (some false))) else (some false)) else (some false))) else (some false))))))))))) = some true := h
 clear h
 obtain ⟨Ax, A2, H⟩ := ob H
 try dsimp only at H
 by_cases c3 : Ax = true
 subst c3
 replace H := ifT H
 clear H
 rotate_left
 replace c3 := Bool.eq_false_iff.mpr c3
 subst c3
 replace H := ifF H
 obtain ⟨⟨Aw, Ao, Ap, Aq, Al⟩, A4, H⟩ := ob H
 try dsimp only at H
 obtain ⟨⟨BT, Am⟩, A5, H⟩ := ob H
 try dsimp only at H
 obtain ⟨⟨BU, AA⟩, A6, H⟩ := ob H
 try dsimp only at H
 obtain ⟨⟨BV, An⟩, A7, H⟩ := ob H
 try dsimp only at H
 obtain ⟨⟨BW, AB⟩, A8, H⟩ := ob H
 try dsimp only at H
 obtain ⟨⟨AC, AD⟩, A9, H⟩ := ob H
 try dsimp only at H
 obtain ⟨⟨AE, AF⟩, BX, H⟩ := ob H
 try dsimp only at H
 by_cases AG : Am = AA
 rw [if_pos AG] at H
 have AN : (Am == AA) = true := beq_iff_eq.mpr AG
 have AO : (Am != AA) = false := bne_eq_false_iff_eq.mpr AG
 clear AG
 obtain ⟨Ay, BY, H⟩ := ob H
 try dsimp only at H
 by_cases AZ : Ay = true
 subst AZ
 replace H := ifT H
 by_cases AH : An = AB
 rw [if_pos AH] at H
 have AP : (An == AB) = true := beq_iff_eq.mpr AH
 have AQ : (An != AB) = false := bne_eq_false_iff_eq.mpr AH
 clear AH
 obtain ⟨Az, BZ, H⟩ := ob H
 try dsimp only at H
 by_cases A1 : Az = true
 subst A1
 replace H := ifT H
 by_cases AI : AD = AF
 rw [if_pos AI] at H
 have AR : (AD == AF) = true := beq_iff_eq.mpr AI
 have AS : (AD != AF) = false := bne_eq_false_iff_eq.mpr AI
 clear AI
 by_cases AJ : AC = AE
 rw [if_pos AJ] at H
 have AT : (AC == AE) = true := beq_iff_eq.mpr AJ
 have AU : (AC != AE) = false := bne_eq_false_iff_eq.mpr AJ
 clear AJ
 by_cases AK : Am = 0
 rw [if_pos AK] at H
 have AV : (Am == 0) = true := beq_iff_eq.mpr AK
 have AW : (Am != 0) = false := bne_eq_false_iff_eq.mpr AK
 clear AK
 by_cases AL : An = 0
 rw [if_pos AL] at H
 have AX : (An == 0) = true := beq_iff_eq.mpr AL
 have AY : (An != 0) = false := bne_eq_false_iff_eq.mpr AL
 clear AL
 replace H := Option.some.inj H
 rotate_left
 ·rw [if_neg AL] at H;have AX : (An == 0) = false := beq_eq_false_iff_ne.mpr AL;have AY : (An != 0) = true := bne_iff_ne.mpr AL;exact absurd H (by simp)
 rw [if_neg AK] at H
 have AV : (Am == 0) = false := beq_eq_false_iff_ne.mpr AK
 have AW : (Am != 0) = true := bne_iff_ne.mpr AK
 clear H
 rotate_left
 ·rw [if_neg AJ] at H;have AT : (AC == AE) = false := beq_eq_false_iff_ne.mpr AJ;have AU : (AC != AE) = true := bne_iff_ne.mpr AJ;exact absurd H (by simp)
 ·rw [if_neg AI] at H;have AR : (AD == AF) = false := beq_eq_false_iff_ne.mpr AI;have AS : (AD != AF) = true := bne_iff_ne.mpr AI;exact absurd H (by simp)
 ·replace A1 := Bool.eq_false_iff.mpr A1;subst A1;replace H := ifF H;exact absurd H (by simp)
 ·rw [if_neg AH] at H;have AP : (An == AB) = false := beq_eq_false_iff_ne.mpr AH;have AQ : (An != AB) = true := bne_iff_ne.mpr AH;exact absurd H (by simp)
 ·replace AZ := Bool.eq_false_iff.mpr AZ;subst AZ;replace H := ifF H;exact absurd H (by simp)
 ·rw [if_neg AG] at H;have AN : (Am == AA) = false := beq_eq_false_iff_ne.mpr AG;have AO : (Am != AA) = true := bne_iff_ne.mpr AG;exact absurd H (by simp)
 all_goals
  go_enter Try.func3, Try.ntmps3
 ·go_wp2_with (first | ((with_reducible refine gate_callee (f := 4) rfl ?_); refine gl 19 Try.func4 #[.slice A0 l0.length c0] ?_; (with_reducible refine (laws_big.calls _ _ _ _ _ ?side1 ?side2 A2.out).mono ?_); (case side1 => exact ks HR0.out); (case side2 => exact BP.out); rintro e w' ⟨rfl, ⟨nd, rfl⟩⟩; refine ⟨_, rfl, ?_⟩));go_ret
  exact er (bbw0 HB)
 rotate_left 2
 all_goals
  go_wp2_with (first | ((with_reducible refine gate_callee (f := 4) rfl ?_); refine gl 19 Try.func4 #[.slice A0 l0.length c0] ?_; (with_reducible refine (laws_big.calls _ _ _ _ _ ?side1 ?side2 A2.out).mono ?_); (case side1 => exact ks HR0.out); (case side2 => exact BP.out); rintro e w' ⟨rfl, ⟨nd, rfl⟩⟩; refine ⟨_, rfl, ?_⟩) | ((with_reducible refine gate_callee (f := 5) rfl ?_); refine gl 22 Try.func5 #[.slice A0 l0.length c0] ?_; (with_reducible refine (spec_DrawPointPart.calls _ _ _ _ _ _ _ _ _ _ ?side1 ?side2 A4.out).mono ?_); (case side1 => exact ks HR0.out); (case side2 => exact BP.out); rintro e B3 ⟨v808, rfl, Av, hb⟩; refine ⟨_, rfl, ?_⟩; have Ac := asd (Kd.R_lower Av (bsz0 HB)); replace HB := bS0 HB hb; (try clear hb); (try clear hb2); (try clear hk); (try clear hi); (try clear Av)) | ((with_reducible refine gd 4 rfl ?_); (try (refine gate_guard (by rfl) ?_; dsimp only)); refine bx #[.int .i64 0, .int .i64 0, .int .i64 0] 25 ?_; intro Ak hg B0 Ab hb; replace Ac := asd (Kd.R_below (kr Ac) hb); have Af := ngw0 hg HB; replace HB := bS0 HB hb; clear hb hg; obtain ⟨A3, Ba, Bb, Bc, Bd, Be⟩ := bz3 Ab) | ((with_reducible refine gate_store (t := 25) (p := 4) rfl ?_); refine store_event (t := 25) (p := 4) (v := ?vo_w24) (w1 := (((B0.setCell ⟨Ak, 0, none⟩ (.int .i64 Ao)).setCell ⟨Ak, 1, none⟩ (.int .i64 Ap)).setCell ⟨Ak, 2, none⟩ (.int .i64 Aq))) ?hg ?ho ?hn ?hr ?_; (case ho => rfl); (case hg => rfl); (case hn => rfl); (case hr => first | (go_simp; done) | (go_simp; rfl)); intro AM hw; have BQ : Aside0 (Kd.R k55 55 AM w.heap.size (fun _ => True) v808 Al) := ⟨(by rw [hw]; exact (by (with_reducible repeat (first | apply Kd.R_alloc | apply Kd.R_drewN | apply Kd.R_drew)); exact Kd.R_mono (rw3 (Kd.R_types Ac.out Ab.out (by decide))) (fun _ hk => trivial)))⟩; have BR : Aside0 (AM.heap[Ak]? = some (.cells #[.int .i64 Ao, .int .i64 Ap, .int .i64 Aq] 25 (0, 0))) := ⟨(by rw [hw]; exact (bq0 Ab))⟩; have BS : Aside0 (Below w.heap.size w AM) := ⟨(by rw [hw]; exact (bbw1 HB Af))⟩; clear hw; clear Ac; clear Ab; clear HB; have Ac := BQ; have Ab := BR; have HB := BS; clear BQ BR BS; have Bf : AM.cell? ⟨Ak, 0, none⟩ = some (.int .i64 Ao) := bcl Ab 0; have Bg : AM.cell? ⟨Ak, 1, none⟩ = some (.int .i64 Ap) := bcl Ab 1; have Bh : AM.cell? ⟨Ak, 2, none⟩ = some (.int .i64 Aq) := bcl Ab 2; have Bi := blk_frozen Ab.out 0; have Bj := blk_frozen Ab.out 1; have Bk := blk_frozen Ab.out 2; obtain ⟨Ao26, co26, eo26⟩ := Kd.R_slice Ac.out; subst eo26) | ((with_reducible refine gate_callee (f := 6) rfl ?_); refine gl 30 Try.func6 #[.int .i64 Aw, .agg #[.int .i64 Ao, .int .i64 Ap, .int .i64 Aq], .slice Ao26 Al.length co26] ?_; (with_reducible refine (impl_PointPart.calls _ _ _ _ _ (fun k_ => some k_ = (.slice Ao26 Al.length co26 : Value).ownBlock) _ _ _ _ _ _ ?side1 A5.out).mono ?_); (case side1 => exact Kd.R_V (Kd.R_tight rfl (Kd.R_types (Ac.out) Ab.out (by decide)))); rintro e B8 ⟨v812, rfl, Av, hb⟩; refine ⟨_, rfl, ?_⟩; replace Ac := asd (Kd.R_below (kr Ac) hb); have Ad := asd (Kd.R_lower (Kd.R_mono (ok' := fun k_ => True) Av (fun _ hk_ => trivial)) (bsz1 HB Af)); replace Ab := bB Ab hb; replace HB := bS1 HB Af hb; (try clear hb); (try clear hb2); (try clear hk); (try clear hi); (try clear Av); obtain ⟨Bl, Bm, Bn, Bo, Bp, Bq⟩ := bz3 Ab) | ((with_reducible refine gate_callee (f := 7) rfl ?_); refine gl 37 Try.func7 #[.int .i64 Aw, .agg #[.int .i64 Ao, .int .i64 Ap, .int .i64 Aq], .slice Ao26 Al.length co26] ?_; (with_reducible refine (spec_PointPart.calls _ _ _ _ _ _ _ _ _ _ _ ?side1 ?side2 A6.out).mono ?_); (case side1 => exact ks (Kd.R_reads' Ac.out).2.2); (case side2 => exact (Kd.R_reads' Ac.out).2.1); rintro e Ca ⟨v816, rfl, Av, hb⟩; refine ⟨_, rfl, ?_⟩; replace Ac := asd (Kd.R_below (kr Ac) hb); have Ae := asd (Kd.R_lower (Kd.R_new' Av (Kd.R_lt (kr Ad))) (bsz1 HB Af)); replace Ad := asd (Kd.R_elder' (kr Ad) (Kd.R_base Av) hb); replace Ab := bB Ab hb; replace HB := bS1 HB Af hb; (try clear hb); (try clear hb2); (try clear hk); (try clear hi); (try clear Av); obtain ⟨Br, Bs, Bt, Bu, Bv, Bw⟩ := bz3 Ab) | ((with_reducible refine gate_callee (f := 8) rfl ?_); refine gl 44 Try.func8 #[.int .i64 Aw, .agg #[.int .i64 Ao, .int .i64 Ap, .int .i64 Aq], .slice Ao26 Al.length co26] ?_; (with_reducible refine (impl_ShiftsOf.calls _ _ _ _ _ (fun k_ => some k_ = (.slice Ao26 Al.length co26 : Value).ownBlock) _ _ _ _ _ _ ?side1 A7.out).mono ?_); (case side1 => exact Kd.R_V (Kd.R_tight rfl (Kd.R_types (Kd.R_apart' (Kd.R_apart' (Ac.out) (Kd.R_typed Ad.out) (by decide)) (Kd.R_typed Ae.out) (by decide)) Ab.out (by decide)))); rintro e Cb ⟨v820, rfl, Av, hb⟩; refine ⟨_, rfl, ?_⟩; replace Ac := asd (Kd.R_below (kr Ac) hb); replace Ad := asd (Kd.R_below (kr Ad) hb); replace Ae := asd (Kd.R_below (kr Ae) hb); have Ag := asd (Kd.R_lower (Kd.R_mono (ok' := fun k_ => True) Av (fun _ hk_ => trivial)) (bsz1 HB Af)); replace Ab := bB Ab hb; replace HB := bS1 HB Af hb; (try clear hb); (try clear hb2); (try clear hk); (try clear hi); (try clear Av); obtain ⟨Bx, By, Bz, BA, BB, BC⟩ := bz3 Ab) | ((with_reducible refine gate_callee (f := 9) rfl ?_); refine gl 51 Try.func9 #[.int .i64 Aw, .agg #[.int .i64 Ao, .int .i64 Ap, .int .i64 Aq], .slice Ao26 Al.length co26] ?_; (with_reducible refine (spec_ShiftsOf.calls _ _ _ _ _ _ _ _ _ _ _ ?side1 ?side2 A8.out).mono ?_); (case side1 => exact ks (Kd.R_reads' Ac.out).2.2); (case side2 => exact (Kd.R_reads' Ac.out).2.1); rintro e Cc ⟨v824, rfl, Av, hb⟩; refine ⟨_, rfl, ?_⟩; replace Ac := asd (Kd.R_below (kr Ac) hb); replace Ad := asd (Kd.R_below (kr Ad) hb); replace Ae := asd (Kd.R_below (kr Ae) hb); have Aj := asd (Kd.R_lower (Kd.R_new' Av (Kd.R_lt (kr Ag))) (bsz1 HB Af)); replace Ag := asd (Kd.R_elder' (kr Ag) (Kd.R_base Av) hb); replace Ab := bB Ab hb; replace HB := bS1 HB Af hb; (try clear hb); (try clear hb2); (try clear hk); (try clear hi); (try clear Av); obtain ⟨BD, BE, BF, BG, BH, BI⟩ := bz3 Ab) | ((with_reducible refine gate_callee (f := 10) rfl ?_); refine gl 58 Try.func10 #[.int .i64 Aw, .agg #[.int .i64 Ao, .int .i64 Ap, .int .i64 Aq], .slice Ao26 Al.length co26] ?_; (with_reducible refine (impl_RotationOrder.calls _ _ _ _ _ (fun k_ => some k_ = (.slice Ao26 Al.length co26 : Value).ownBlock) _ _ _ _ _ _ ?side1 A9.out).mono ?_); (case side1 => exact Kd.R_V (Kd.R_tight rfl (Kd.R_types (Kd.R_apart' (Kd.R_apart' (Kd.R_apart' (Kd.R_apart' (Ac.out) (Kd.R_typed Ad.out) (by decide)) (Kd.R_typed Ae.out) (by decide)) (Kd.R_typed Ag.out) (by decide)) (Kd.R_typed Aj.out) (by decide)) Ab.out (by decide)))); rintro e Cd ⟨rfl, hb⟩; refine ⟨_, rfl, ?_⟩; replace Ac := asd (Kd.R_below (kr Ac) hb); replace Ad := asd (Kd.R_below (kr Ad) hb); replace Ae := asd (Kd.R_below (kr Ae) hb); replace Ag := asd (Kd.R_below (kr Ag) hb); replace Aj := asd (Kd.R_below (kr Aj) hb); replace Ab := bB Ab hb; replace HB := bS1 HB Af hb; (try clear hb); obtain ⟨BJ, BK, BL, BM, BN, BO⟩ := bz3 Ab) | ((with_reducible refine gate_callee (f := 11) rfl ?_); refine gl 65 Try.func11 #[.int .i64 Aw, .agg #[.int .i64 Ao, .int .i64 Ap, .int .i64 Aq], .slice Ao26 Al.length co26] ?_; (with_reducible refine (spec_RotationOrder.calls _ _ _ _ _ _ _ _ _ _ _ ?side1 ?side2 BX.out).mono ?_); (case side1 => exact ks (Kd.R_reads' Ac.out).2.2); (case side2 => exact (Kd.R_reads' Ac.out).2.1); rintro e Ce ⟨rfl, hb⟩; refine ⟨_, rfl, ?_⟩; replace Ac := asd (Kd.R_below (kr Ac) hb); replace Ad := asd (Kd.R_below (kr Ad) hb); replace Ae := asd (Kd.R_below (kr Ae) hb); replace Ag := asd (Kd.R_below (kr Ag) hb); replace Aj := asd (Kd.R_below (kr Aj) hb); replace Ab := bB Ab hb; replace HB := bS1 HB Af hb; (try clear hb); obtain ⟨Ao38, co38, eo38⟩ := Kd.R_slice Ad.out; subst eo38; obtain ⟨Ao39, co39, eo39⟩ := Kd.R_slice Ae.out; subst eo39) | (go_at_call 12; (with_reducible refine (laws_likeMats9.calls _ _ _ _ _ _ _ _ _ ?side1 ?side2 ?side3 ?side4 BY.out).mono ?_); (case side1 => exact ks (Kd.R_reads' Ad.out).2.2); (case side2 => exact (Kd.R_reads' Ad.out).2.1); (case side3 => exact ks (Kd.R_reads' Ae.out).2.2); (case side4 => exact (Kd.R_reads' Ae.out).2.1); rintro e w' ⟨rfl, ⟨nd, rfl⟩⟩; obtain ⟨Ao40, co40, eo40⟩ := Kd.R_slice Ag.out; subst eo40; obtain ⟨Ao41, co41, eo41⟩ := Kd.R_slice Aj.out; subst eo41) | (go_at_call 13; (with_reducible refine (laws_likeVecs9.calls _ _ _ _ _ _ _ _ _ ?side1 ?side2 ?side3 ?side4 BZ.out).mono ?_); (case side1 => exact ks (Kd.R_reads' Ag.out).2.2); (case side2 => exact (Kd.R_reads' Ag.out).2.1); (case side3 => exact ks (Kd.R_reads' Aj.out).2.2); (case side4 => exact (Kd.R_reads' Aj.out).2.1); rintro e w' ⟨rfl, ⟨nd, rfl⟩⟩));go_ret
  exact er (bbw1 HB Af)
def laws_FnPointParts.Pure : Prop := ∀ (l0 : List Int), l0.length ≤ maxLen → (∀ x ∈ l0, (Lit.int .u8 x).wf = true) → ∃ k, laws_FnPointParts.f k l0 = some true
end Go.Proofs.Ytedmadofpdkekaa.PA
