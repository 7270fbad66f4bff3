import Derived.Test.YtfmjboloeabjmaaGreatPAx0
import Derived.Test.YtfmjboloeabjmaaGreatPAx2
import Derived.Test.YtfmjboloeabjmaaGreatPAx13
namespace Go.Proofs.YtfmjboloeabjmaaGreat.PA
open Go.RowKit Go.Proofs.YtfmjboloeabjmaaGreatW.PrintWords Go.Proofs.YtfmjboloeabjmaaGreatW.PrintLast Go.Proofs.YtfmjboloeabjmaaGreatW.PrintMore
attribute [local go_sem] max2_int min2_int max_two min_two max_three min_three max_four min_four   -- for this text's walks alone
set_option linter.unusedVariables false
set_option maxHeartbeats 8000000
set_option maxRecDepth 100000
set_option linter.unusedSimpArgs false
def impl_pointMats.l0 : Nat → Int → List (S42) → Int → Option ((List (S42)))
 | 0, _, _, _ => none
 | k + 1, x0, x3, AD => if AD < 81 then ((impl_Mat_apply.f (wrap64 ((wrap64 (Int.tdiv AD 27)) - 1)) (wrap64 ((Int.tmod (wrap64 (Int.tdiv AD 9)) 3) - 1)) (wrap64 ((Int.tmod (wrap64 (Int.tdiv AD 3)) 3) - 1)) (wrap64 ((Int.tmod AD 3) - 1)) 1 0).bind fun AX => ((impl_Mat_apply.f (wrap64 ((wrap64 (Int.tdiv AD 27)) - 1)) (wrap64 ((Int.tmod (wrap64 (Int.tdiv AD 9)) 3) - 1)) (wrap64 ((Int.tmod (wrap64 (Int.tdiv AD 3)) 3) - 1)) (wrap64 ((Int.tmod AD 3) - 1)) 0 1).bind fun AY => ((impl_Mat_apply.f (wrap64 ((wrap64 (Int.tdiv AD 27)) - 1)) (wrap64 ((Int.tmod (wrap64 (Int.tdiv AD 9)) 3) - 1)) (wrap64 ((Int.tmod (wrap64 (Int.tdiv AD 3)) 3) - 1)) (wrap64 ((Int.tmod AD 3) - 1)) 1 1).bind fun AZ => ((impl_norm.f x0 AX.1 AX.2).bind fun AM => (if AM = 1 then ((impl_norm.f x0 AY.1 AY.2).bind fun AN => (if AN = 1 then ((impl_norm.f x0 AZ.1 AZ.2).bind fun AO => (if AO = (wrap64 (2 + x0)) then (if x3.length < 4398046511104 then (impl_pointMats.l0 k x0 (x3 ++ [(⟨wrap64 ((wrap64 (Int.tdiv AD 27)) - 1), wrap64 ((Int.tmod (wrap64 (Int.tdiv AD 9)) 3) - 1), wrap64 ((Int.tmod (wrap64 (Int.tdiv AD 3)) 3) - 1), wrap64 ((Int.tmod AD 3) - 1)⟩ : S42)]) (wrap64 (AD + 1))) else (none)) else (impl_pointMats.l0 k x0 x3 (wrap64 (AD + 1))))) else (impl_pointMats.l0 k x0 x3 (wrap64 (AD + 1))))) else (impl_pointMats.l0 k x0 x3 (wrap64 (AD + 1)))))))) else (some x3)
def impl_pointMats.f (k : Nat) (a0 : Int) : Option ((List (S42))) := impl_pointMats.l0 k a0 (([] : List (S42))) 0
def impl_pointMats.T6 : Bool × List (List Nat × List Nat) := (true, [([], []), ([], []), ([0, 1], [0, 1]), ([], []), ([], []), ([3, 4, 2], [3, 4]), ([], []), ([], []), ([6, 7, 5], [6, 7]), ([], []), ([], []), ([], []), ([9, 2, 8, 0, 1, 2, 9, 10, 11], [2, 9]), ([10, 5, 12, 0, 1, 2, 3, 4, 5, 9, 10, 11, 12], [5, 10]), ([11, 8, 13, 0, 1, 2, 3, 4, 5, 6, 7, 8, 9, 10, 11, 12, 13], [8, 11])])
def impl_pointMats.B6 : List Nat := [0, 0, 3, 0, 0, 31, 0, 0, 255, 0, 0, 0, 4095, 8191, 16383]
theorem impl_pointMats.tab6 : rtab .any (opsOf Tryz.f109 6) = impl_pointMats.T6 := by kernel_rfl
theorem impl_pointMats.bits6 : waitsOk impl_pointMats.T6.2 impl_pointMats.B6 = true := by kernel_rfl
theorem impl_pointMats.calls (k : Nat) (a0 : Int) (r : List (S42)) (w : World) (h : impl_pointMats.f k a0 = some r) :
  Calls Tryz.prog 109 #[.int .i64 a0] w fun e w' => ∃ v0_ : Value, e = .returned (v0_) ∧ Kd.R k42 42 w' w.heap.size (fun _ => True) v0_ r ∧ Below w.heap.size w w' := by
 have hu42 := Tryz.underlying42
 have hu44 := Tryz.underlying44
 have HB := asd (Below.refl w.heap.size w)
 have H : (impl_pointMats.l0 k a0 (([] : List (S42))) 0) = some r := h
 clear h
 obtain ⟨A9, AK⟩ : ∃ y_ : List (S42), y_ = (([] : List (S42))) := ⟨_, rfl⟩
 replace H : (impl_pointMats.l0 k a0 A9 0) = some r := by first | (rw [AK]; with_reducible exact H) | (have H2_ := (Option.bind_some _ _).symm.trans H; rw [AK]; with_reducible exact H2_) | (have H2_ := (Option.bind_some _ _).symm.trans H; with_reducible exact H2_) | with_reducible exact H | (rw [AK]; exact H) | exact H
 have A0 := Aside0.mk AK
 clear AK
 have H' := Aside0.mk H
 clear H
 go_enter Tryz.func109, Tryz.ntmps109
 go_wp2_with (first | ((with_reducible refine gd 9 rfl ?_); refine Kd.R_lit k42 _ 42 ?hg (N := 9) ?hd (xs := ([] : List (S42))) (inner := []) (ok := fun _ => True) (okp := fun _ => True) ?hr ?hp (fun _ hk => hk) trivial (Below.refl _ _) (Nat.le_refl _) (by simp) ?_; (case hd => rfl); (case hg => rfl); (case hr => first | (go_simp; done) | (go_simp; rfl)); (case hp => exact (Reps.none _ _)); intro v480 w2 Ba hb hg_ hnew_; clear hg_ hnew_; (first | rw [← A0.out] at Ba | (simp only [Int.reduceToNat] at Ba; rw [← A0.out] at Ba)); have Bb := asd (Kd.R_lower Ba (bsz0 HB)); replace HB := bS0 HB hb; clear hb Ba))
 go_loopg [3, 10] k (fun kq v3 v10 w' => ∃ (AH : List (S42)) (Aa : Int), v10 = .int .i64 Aa ∧ Aside0 (impl_pointMats.l0 kq a0 AH Aa = some r) ∧ Aside0 (kq ≤ k) ∧ Aside0 (Kd.R k42 42 w' w.heap.size (fun _ => True) v3 AH) ∧ Aside0 (Below w.heap.size w w'))
 case atStart => exact ⟨(A9), (0), (by first | rfl | (simp; done) | (simp [*]; done)), H', ⟨Nat.le_refl _⟩, ⟨by (with_reducible repeat (first | apply Kd.R_alloc | apply Kd.R_drewN | apply Kd.R_drew)); exact Bb.out⟩, ⟨bbw0 HB⟩⟩
 case round =>
  clear H'
  obtain ⟨AH, Aa, rfl, HA, CH, Af, HB⟩ := hrel
  cases gk with
  | zero => exact absurd HA.out (by simp [impl_pointMats.l0])
  | succ k1 =>
   have H := HA.out
   clear HA
   simp only [impl_pointMats.l0] at H
   by_cases c4 : Aa < 81
   ·rw [if_pos c4] at H
    have CI := decide_eq_true c4
    clear c4
    obtain ⟨⟨AI, AJ⟩, A5, H⟩ := ob H
    try dsimp only at H
    obtain ⟨⟨AQ, AR⟩, A6, H⟩ := ob H
    try dsimp only at H
    obtain ⟨⟨AS, AT⟩, A7, H⟩ := ob H
    try dsimp only at H
    have Hq_ := Aside0.mk H
    clear H
    try go_wp2_with (first | ((with_reducible refine gd 5 rfl ?_); refine bx #[.int .i64 0, .int .i64 0, .int .i64 0, .int .i64 0] 42 ?_; intro Ak hg Db Ab hb; replace Af := asd (Kd.R_below (Kd.R_elderB (kr Af) Ak (Nat.le_of_eq hg.symm)) hb); have Aj := ngw0 hg HB; replace HB := bS0 HB hb; clear hb hg; obtain ⟨Bk, Bl, Bm, Bn, Bo, Bp, Bq, Br⟩ := bz4 Ab))
    obtain ⟨Bs, h_w17⟩ : ∃ w_, ((((Db.setCell ⟨Ak, 0, none⟩ (.int .i64 (wrap64 ((wrap64 (Int.tdiv Aa 27)) - 1)))).setCell ⟨Ak, 1, none⟩ (.int .i64 (wrap64 ((Int.tmod (wrap64 (Int.tdiv Aa 9)) 3) - 1)))).setCell ⟨Ak, 2, none⟩ (.int .i64 (wrap64 ((Int.tmod (wrap64 (Int.tdiv Aa 3)) 3) - 1)))).setCell ⟨Ak, 3, none⟩ (.int .i64 (wrap64 ((Int.tmod Aa 3) - 1)))) = w_ := ⟨_, rfl⟩
    replace Af : Aside0 (Kd.R k42 42 Bs w.heap.size (fun k_ => k_ ≠ Ak) u3 AH) := by rw [← h_w17]; exact ⟨by (with_reducible repeat (first | apply Kd.R_alloc | apply Kd.R_drewN | apply Kd.R_drew)); exact Kd.R_mono (rw4 (Kd.R_mono Af.out (fun k_ hk => (⟨hk, hk.2⟩ : _ ∧ k_ ≠ Ak)))) (fun _ hk => hk.1.2)⟩
    replace Ab : Aside0 (Bs.heap[Ak]? = some (.cells #[.int .i64 (wrap64 ((wrap64 (Int.tdiv Aa 27)) - 1)), .int .i64 (wrap64 ((Int.tmod (wrap64 (Int.tdiv Aa 9)) 3) - 1)), .int .i64 (wrap64 ((Int.tmod (wrap64 (Int.tdiv Aa 3)) 3) - 1)), .int .i64 (wrap64 ((Int.tmod Aa 3) - 1))] 42 (0, 0))) := by rw [← h_w17]; exact ⟨bq0 Ab⟩
    replace HB : Aside0 (Below w.heap.size w Bs) := by rw [← h_w17]; exact ⟨bbw1 HB Aj⟩
    (try rw [h_w17]); clear h_w17
    replace Af := asd (Kd.R_drew Af.out)
    replace Ab := asd (blk_drew Ab.out)
    replace HB := asd (below_drew1 HB.out)
    refine start_ (n := 15) (S := fun w' => True) (ds := []) (bT 15 0) (by kernel_rfl) rfl rfl trivial (fun hHeld => ?_); refine with_tabW impl_pointMats.tab6 impl_pointMats.bits6 (fun HT_ HW_ => ?_)
    generalize Bs.drew = De at Af Ab HB hHeld ⊢
    refine inv_at [0, 1, 2, 3, 4, 5, 6, 7, 8, 9, 10, 11, 12, 13, 14] (fun a0_ b a w' => ∃ (Ac : Nat) (Ad : Nat) (Ae : Nat) (m9_ : Value) (m10_ : Value) (m11_ : Value), a = putSel a0_ b [(0, 28, .agg #[.int .i64 (wrap64 ((wrap64 (Int.tdiv Aa 27)) - 1)), .int .i64 (wrap64 ((Int.tmod (wrap64 (Int.tdiv Aa 9)) 3) - 1)), .int .i64 (wrap64 ((Int.tmod (wrap64 (Int.tdiv Aa 3)) 3) - 1)), .int .i64 (wrap64 ((Int.tmod Aa 3) - 1))]), (1, 29, .agg #[.int .i64 1, .int .i64 0]), (2, 30, .agg #[.int .i64 AI, .int .i64 AJ]), (3, 31, .agg #[.int .i64 (wrap64 ((wrap64 (Int.tdiv Aa 27)) - 1)), .int .i64 (wrap64 ((Int.tmod (wrap64 (Int.tdiv Aa 9)) 3) - 1)), .int .i64 (wrap64 ((Int.tmod (wrap64 (Int.tdiv Aa 3)) 3) - 1)), .int .i64 (wrap64 ((Int.tmod Aa 3) - 1))]), (4, 32, .agg #[.int .i64 0, .int .i64 1]), (5, 33, .agg #[.int .i64 AQ, .int .i64 AR]), (6, 34, .agg #[.int .i64 (wrap64 ((wrap64 (Int.tdiv Aa 27)) - 1)), .int .i64 (wrap64 ((Int.tmod (wrap64 (Int.tdiv Aa 9)) 3) - 1)), .int .i64 (wrap64 ((Int.tmod (wrap64 (Int.tdiv Aa 3)) 3) - 1)), .int .i64 (wrap64 ((Int.tmod Aa 3) - 1))]), (7, 35, .agg #[.int .i64 1, .int .i64 1]), (8, 36, .agg #[.int .i64 AS, .int .i64 AT]), (9, 6, m9_), (10, 7, m10_), (11, 8, m11_)] ∧ (Kd.R k42 42 w' w.heap.size (fun k_ => k_ ≠ Ak) u3 AH) ∧ (w'.heap[Ak]? = some (.cells #[.int .i64 (wrap64 ((wrap64 (Int.tdiv Aa 27)) - 1)), .int .i64 (wrap64 ((Int.tmod (wrap64 (Int.tdiv Aa 9)) 3) - 1)), .int .i64 (wrap64 ((Int.tmod (wrap64 (Int.tdiv Aa 3)) 3) - 1)), .int .i64 (wrap64 ((Int.tmod Aa 3) - 1))] 42 (0, 0))) ∧ (Below w.heap.size w w') ∧ (b 9 = true → b 10 = true → Ad ≠ Ac) ∧ (b 9 = true → b 10 = true → Ac ≠ Ad) ∧ (b 9 = true → b 11 = true → Ae ≠ Ac) ∧ (b 9 = true → b 11 = true → Ac ≠ Ae) ∧ (b 10 = true → b 11 = true → Ae ≠ Ad) ∧ (b 10 = true → b 11 = true → Ad ≠ Ae) ∧ (b 9 = true → b 12 = false → w'.heap[Ac]? = some (.cells #[.int .i64 0, .int .i64 0] 44 (0, 0))) ∧ (b 9 = true → w.heap.size ≤ Ac) ∧ (b 9 = true → w.heap.size ≤ Ac) ∧ (b 9 = true → Ak ≠ Ac) ∧ (b 9 = true → Ac ≠ Ak) ∧ (b 10 = true → b 13 = false → w'.heap[Ad]? = some (.cells #[.int .i64 0, .int .i64 0] 44 (0, 0))) ∧ (b 10 = true → w.heap.size ≤ Ad) ∧ (b 10 = true → w.heap.size ≤ Ad) ∧ (b 10 = true → Ak ≠ Ad) ∧ (b 10 = true → Ad ≠ Ak) ∧ (b 11 = true → b 14 = false → w'.heap[Ae]? = some (.cells #[.int .i64 0, .int .i64 0] 44 (0, 0))) ∧ (b 11 = true → w.heap.size ≤ Ae) ∧ (b 11 = true → w.heap.size ≤ Ae) ∧ (b 11 = true → Ak ≠ Ae) ∧ (b 11 = true → Ae ≠ Ak) ∧ (b 12 = true → w'.heap[Ac]? = some (.cells #[.int .i64 AI, .int .i64 AJ] 44 (0, 0))) ∧ (b 13 = true → w'.heap[Ad]? = some (.cells #[.int .i64 AQ, .int .i64 AR] 44 (0, 0))) ∧ (b 14 = true → w'.heap[Ae]? = some (.cells #[.int .i64 AS, .int .i64 AT] 44 (0, 0))) ∧ (b 9 = true → (m9_ : Value) = .pointer (some ⟨Ac, 0, none⟩)) ∧ (b 10 = true → (m10_ : Value) = .pointer (some ⟨Ad, 0, none⟩)) ∧ (b 11 = true → (m11_ : Value) = .pointer (some ⟨Ae, 0, none⟩))) HT_.out HW_.out (by kernel_rfl) (by kernel_rfl) ?_ ?_ ?_
    ·exact ⟨0, 0, 0, .bool false, .bool false, .bool false, by simp only [putSel, Bool.false_eq_true, if_false], Af.out, Ab.out, HB.out, fun h_ => absurd h_ (by decide), fun h_ => absurd h_ (by decide), fun h_ => absurd h_ (by decide), fun h_ => absurd h_ (by decide), fun h_ => absurd h_ (by decide), fun h_ => absurd h_ (by decide), fun h_ => absurd h_ (by decide), fun h_ => absurd h_ (by decide), fun h_ => absurd h_ (by decide), fun h_ => absurd h_ (by decide), fun h_ => absurd h_ (by decide), fun h_ => absurd h_ (by decide), fun h_ => absurd h_ (by decide), fun h_ => absurd h_ (by decide), fun h_ => absurd h_ (by decide), fun h_ => absurd h_ (by decide), fun h_ => absurd h_ (by decide), fun h_ => absurd h_ (by decide), fun h_ => absurd h_ (by decide), fun h_ => absurd h_ (by decide), fun h_ => absurd h_ (by decide), fun h_ => absurd h_ (by decide), fun h_ => absurd h_ (by decide), fun h_ => absurd h_ (by decide), fun h_ => absurd h_ (by decide), fun h_ => absurd h_ (by decide), fun h_ => absurd h_ (by decide)⟩
    ·skip
     clear Ab HB Af
     refine steps_cons ?_ ?_
     ·rintro b a w' ⟨Ac, Ad, Ae, m9_, m10_, m11_, ha, Q_HO_3, Q_BK482, Q_HB, Q_NB490_489, Q_NB489_490, Q_NB491_489, Q_NB489_491, Q_NB491_490, Q_NB490_491, Q_BK489, Q_GW489, Q_GE489, Q_NB482_489, Q_NB489_482, Q_BK490, Q_GW490, Q_GE490, Q_NB482_490, Q_NB490_482, Q_BK491, Q_GW491, Q_GE491, Q_NB482_491, Q_NB491_482, Q_BK489_e12, Q_BK490_e13, Q_BK491_e14, Q_X9_, Q_X10_, Q_X11_⟩ hb_ hon hoff
      refine ⟨_, rfl, fun K hK => ?_⟩
      have e5 : a.tmps[5]? = some (.pointer (some ⟨Ak, 0, none⟩)) := by rw [ha]; exact (putSel_off rfl).trans rfl
      replace ha := Aside0.mk ha
      have Af := Aside0.mk Q_HO_3
      have Ab := Aside0.mk Q_BK482
      have HB := Aside0.mk Q_HB
      have hc0_ : w'.cell? ⟨Ak, 0, none⟩ = some (.int .i64 (wrap64 ((wrap64 (Int.tdiv Aa 27)) - 1))) := bcl Ab 0
      have hc1_ : w'.cell? ⟨Ak, 1, none⟩ = some (.int .i64 (wrap64 ((Int.tmod (wrap64 (Int.tdiv Aa 9)) 3) - 1))) := bcl Ab 1
      have hc2_ : w'.cell? ⟨Ak, 2, none⟩ = some (.int .i64 (wrap64 ((Int.tmod (wrap64 (Int.tdiv Aa 3)) 3) - 1))) := bcl Ab 2
      have hc3_ : w'.cell? ⟨Ak, 3, none⟩ = some (.int .i64 (wrap64 ((Int.tmod Aa 3) - 1))) := bcl Ab 3
      refine value_ (w1 := w') (v := .agg #[.int .i64 (wrap64 ((wrap64 (Int.tdiv Aa 27)) - 1)), .int .i64 (wrap64 ((Int.tmod (wrap64 (Int.tdiv Aa 9)) 3) - 1)), .int .i64 (wrap64 ((Int.tmod (wrap64 (Int.tdiv Aa 3)) 3) - 1)), .int .i64 (wrap64 ((Int.tmod Aa 3) - 1))]) (by rfl) rfl ?_ ?_
      ·go_simp
       (try simp only [i64_w])
       try rfl
      refine hK.out _ _ ⟨Ac, Ad, Ae, m9_, m10_, m11_, (by rw [ha.out]; exact putSel_upk 0 hb_ rfl rfl rfl), Q_HO_3, Q_BK482, Q_HB, Q_NB490_489, Q_NB489_490, Q_NB491_489, Q_NB489_491, Q_NB491_490, Q_NB490_491, Q_BK489, Q_GW489, Q_GE489, Q_NB482_489, Q_NB489_482, Q_BK490, Q_GW490, Q_GE490, Q_NB482_490, Q_NB490_482, Q_BK491, Q_GW491, Q_GE491, Q_NB482_491, Q_NB491_482, fun h0_ => absurd ((hoff 12 (by kernel_rfl)).symm.trans h0_) (by decide), fun h0_ => absurd ((hoff 13 (by kernel_rfl)).symm.trans h0_) (by decide), fun h0_ => absurd ((hoff 14 (by kernel_rfl)).symm.trans h0_) (by decide), Q_X9_, Q_X10_, Q_X11_⟩
     refine steps_cons ?_ ?_
     ·rintro b a w' ⟨Ac, Ad, Ae, m9_, m10_, m11_, ha, Q_HO_3, Q_BK482, Q_HB, Q_NB490_489, Q_NB489_490, Q_NB491_489, Q_NB489_491, Q_NB491_490, Q_NB490_491, Q_BK489, Q_GW489, Q_GE489, Q_NB482_489, Q_NB489_482, Q_BK490, Q_GW490, Q_GE490, Q_NB482_490, Q_NB490_482, Q_BK491, Q_GW491, Q_GE491, Q_NB482_491, Q_NB491_482, Q_BK489_e12, Q_BK490_e13, Q_BK491_e14, Q_X9_, Q_X10_, Q_X11_⟩ hb_ hon hoff
      refine ⟨_, rfl, fun K hK => ?_⟩
      replace ha := Aside0.mk ha
      have Af := Aside0.mk Q_HO_3
      have Ab := Aside0.mk Q_BK482
      have HB := Aside0.mk Q_HB
      refine value_ (w1 := w') (v := .agg #[.int .i64 1, .int .i64 0]) (by rfl) rfl ?_ ?_
      ·go_simp
       (try simp only [i64_w])
       try rfl
      refine hK.out _ _ ⟨Ac, Ad, Ae, m9_, m10_, m11_, (by rw [ha.out]; exact putSel_upk 1 hb_ rfl rfl rfl), Q_HO_3, Q_BK482, Q_HB, Q_NB490_489, Q_NB489_490, Q_NB491_489, Q_NB489_491, Q_NB491_490, Q_NB490_491, Q_BK489, Q_GW489, Q_GE489, Q_NB482_489, Q_NB489_482, Q_BK490, Q_GW490, Q_GE490, Q_NB482_490, Q_NB490_482, Q_BK491, Q_GW491, Q_GE491, Q_NB482_491, Q_NB491_482, fun h0_ => absurd ((hoff 12 (by kernel_rfl)).symm.trans h0_) (by decide), fun h0_ => absurd ((hoff 13 (by kernel_rfl)).symm.trans h0_) (by decide), fun h0_ => absurd ((hoff 14 (by kernel_rfl)).symm.trans h0_) (by decide), Q_X9_, Q_X10_, Q_X11_⟩
     refine steps_cons ?_ ?_
     ·rintro b a w' ⟨Ac, Ad, Ae, m9_, m10_, m11_, ha, Q_HO_3, Q_BK482, Q_HB, Q_NB490_489, Q_NB489_490, Q_NB491_489, Q_NB489_491, Q_NB491_490, Q_NB490_491, Q_BK489, Q_GW489, Q_GE489, Q_NB482_489, Q_NB489_482, Q_BK490, Q_GW490, Q_GE490, Q_NB482_490, Q_NB490_482, Q_BK491, Q_GW491, Q_GE491, Q_NB482_491, Q_NB491_482, Q_BK489_e12, Q_BK490_e13, Q_BK491_e14, Q_X9_, Q_X10_, Q_X11_⟩ hb_ hon hoff
      refine ⟨_, rfl, fun K hK => ?_⟩
      have e28 : a.tmps[28]? = some (.agg #[.int .i64 (wrap64 ((wrap64 (Int.tdiv Aa 27)) - 1)), .int .i64 (wrap64 ((Int.tmod (wrap64 (Int.tdiv Aa 9)) 3) - 1)), .int .i64 (wrap64 ((Int.tmod (wrap64 (Int.tdiv Aa 3)) 3) - 1)), .int .i64 (wrap64 ((Int.tmod Aa 3) - 1))]) := by rw [ha]; exact putSel_on (e := (0, 28, .agg #[.int .i64 (wrap64 ((wrap64 (Int.tdiv Aa 27)) - 1)), .int .i64 (wrap64 ((Int.tmod (wrap64 (Int.tdiv Aa 9)) 3) - 1)), .int .i64 (wrap64 ((Int.tmod (wrap64 (Int.tdiv Aa 3)) 3) - 1)), .int .i64 (wrap64 ((Int.tmod Aa 3) - 1))])) 0 rfl rfl (hon 0 (by kernel_rfl)) rfl
      have e29 : a.tmps[29]? = some (.agg #[.int .i64 1, .int .i64 0]) := by rw [ha]; exact putSel_on (e := (1, 29, .agg #[.int .i64 1, .int .i64 0])) 1 rfl rfl (hon 1 (by kernel_rfl)) rfl
      replace ha := Aside0.mk ha
      have Af := Aside0.mk Q_HO_3
      have Ab := Aside0.mk Q_BK482
      have HB := Aside0.mk Q_HB
      refine goes_ Tryz.func99 (by kernel_rfl) rfl #[.agg #[.int .i64 (wrap64 ((wrap64 (Int.tdiv Aa 27)) - 1)), .int .i64 (wrap64 ((Int.tmod (wrap64 (Int.tdiv Aa 9)) 3) - 1)), .int .i64 (wrap64 ((Int.tmod (wrap64 (Int.tdiv Aa 3)) 3) - 1)), .int .i64 (wrap64 ((Int.tmod Aa 3) - 1))], .agg #[.int .i64 1, .int .i64 0]] (by rfl) rfl rfl (by first | (simp only [List.map_toArray, List.map_cons, List.map_nil, Act.eval, Array.getD_eq_getD_getElem?, Option.getD_some, e28, e29]; done) | (simp only [List.map_toArray, List.map_cons, List.map_nil, Act.eval, Array.getD_eq_getD_getElem?, Option.getD_some, e28, e29]; rfl)) ?_
      with_reducible refine (impl_Mat_apply.calls _ _ _ _ _ _ _ _ _ A5.out).mono ?_
      rintro e AP ⟨rfl, hb⟩
      refine ⟨_, rfl, ?_⟩
      have AE := asd (Kd.R_below (kr Af) hb)
      have AF := bB Ab hb
      have AG := bS1 HB Aj hb
      have z_BK489 := fun (h0_ : b 9 = true) (h1_ : b 12 = false) => (show AP.heap[Ac]? = some (.cells #[.int .i64 0, .int .i64 0] 44 (0, 0)) from by first | exact (blk_below (g := Ac) (o := .cells #[.int .i64 0, .int .i64 0] 44 (0, 0)) (by (with_reducible repeat (first | refine blk_drewN ?_ _ | refine blk_drew ?_ | refine blk_alloc ?_ _)); exact (Q_BK489 h0_ h1_)) hb))
      have z_BK490 := fun (h0_ : b 10 = true) (h1_ : b 13 = false) => (show AP.heap[Ad]? = some (.cells #[.int .i64 0, .int .i64 0] 44 (0, 0)) from by first | exact (blk_below (g := Ad) (o := .cells #[.int .i64 0, .int .i64 0] 44 (0, 0)) (by (with_reducible repeat (first | refine blk_drewN ?_ _ | refine blk_drew ?_ | refine blk_alloc ?_ _)); exact (Q_BK490 h0_ h1_)) hb))
      have z_BK491 := fun (h0_ : b 11 = true) (h1_ : b 14 = false) => (show AP.heap[Ae]? = some (.cells #[.int .i64 0, .int .i64 0] 44 (0, 0)) from by first | exact (blk_below (g := Ae) (o := .cells #[.int .i64 0, .int .i64 0] 44 (0, 0)) (by (with_reducible repeat (first | refine blk_drewN ?_ _ | refine blk_drew ?_ | refine blk_alloc ?_ _)); exact (Q_BK491 h0_ h1_)) hb))
      clear Af
      clear Ab
      clear HB
      have Af := AE
      have Ab := AF
      have HB := AG
      clear AE AF AG
      (try clear hb)
      (try clear hb2)
      (try clear hk)
      (try clear hi)
      refine hK.out _ _ ⟨Ac, Ad, Ae, m9_, m10_, m11_, (by rw [ha.out]; exact putSel_upk 2 hb_ rfl rfl rfl), (kr Af), (bkp Ab), (bbw1 HB Aj), Q_NB490_489, Q_NB489_490, Q_NB491_489, Q_NB489_491, Q_NB491_490, Q_NB490_491, z_BK489, Q_GW489, Q_GE489, Q_NB482_489, Q_NB489_482, z_BK490, Q_GW490, Q_GE490, Q_NB482_490, Q_NB490_482, z_BK491, Q_GW491, Q_GE491, Q_NB482_491, Q_NB491_482, fun h0_ => absurd ((hoff 12 (by kernel_rfl)).symm.trans h0_) (by decide), fun h0_ => absurd ((hoff 13 (by kernel_rfl)).symm.trans h0_) (by decide), fun h0_ => absurd ((hoff 14 (by kernel_rfl)).symm.trans h0_) (by decide), Q_X9_, Q_X10_, Q_X11_⟩
     refine steps_cons ?_ ?_
     ·rintro b a w' ⟨Ac, Ad, Ae, m9_, m10_, m11_, ha, Q_HO_3, Q_BK482, Q_HB, Q_NB490_489, Q_NB489_490, Q_NB491_489, Q_NB489_491, Q_NB491_490, Q_NB490_491, Q_BK489, Q_GW489, Q_GE489, Q_NB482_489, Q_NB489_482, Q_BK490, Q_GW490, Q_GE490, Q_NB482_490, Q_NB490_482, Q_BK491, Q_GW491, Q_GE491, Q_NB482_491, Q_NB491_482, Q_BK489_e12, Q_BK490_e13, Q_BK491_e14, Q_X9_, Q_X10_, Q_X11_⟩ hb_ hon hoff
      refine ⟨_, rfl, fun K hK => ?_⟩
      have e5 : a.tmps[5]? = some (.pointer (some ⟨Ak, 0, none⟩)) := by rw [ha]; exact (putSel_off rfl).trans rfl
      replace ha := Aside0.mk ha
      have Af := Aside0.mk Q_HO_3
      have Ab := Aside0.mk Q_BK482
      have HB := Aside0.mk Q_HB
      have hc0_ : w'.cell? ⟨Ak, 0, none⟩ = some (.int .i64 (wrap64 ((wrap64 (Int.tdiv Aa 27)) - 1))) := bcl Ab 0
      have hc1_ : w'.cell? ⟨Ak, 1, none⟩ = some (.int .i64 (wrap64 ((Int.tmod (wrap64 (Int.tdiv Aa 9)) 3) - 1))) := bcl Ab 1
      have hc2_ : w'.cell? ⟨Ak, 2, none⟩ = some (.int .i64 (wrap64 ((Int.tmod (wrap64 (Int.tdiv Aa 3)) 3) - 1))) := bcl Ab 2
      have hc3_ : w'.cell? ⟨Ak, 3, none⟩ = some (.int .i64 (wrap64 ((Int.tmod Aa 3) - 1))) := bcl Ab 3
      refine value_ (w1 := w') (v := .agg #[.int .i64 (wrap64 ((wrap64 (Int.tdiv Aa 27)) - 1)), .int .i64 (wrap64 ((Int.tmod (wrap64 (Int.tdiv Aa 9)) 3) - 1)), .int .i64 (wrap64 ((Int.tmod (wrap64 (Int.tdiv Aa 3)) 3) - 1)), .int .i64 (wrap64 ((Int.tmod Aa 3) - 1))]) (by rfl) rfl ?_ ?_
      ·go_simp
       (try simp only [i64_w])
       try rfl
      refine hK.out _ _ ⟨Ac, Ad, Ae, m9_, m10_, m11_, (by rw [ha.out]; exact putSel_upk 3 hb_ rfl rfl rfl), Q_HO_3, Q_BK482, Q_HB, Q_NB490_489, Q_NB489_490, Q_NB491_489, Q_NB489_491, Q_NB491_490, Q_NB490_491, Q_BK489, Q_GW489, Q_GE489, Q_NB482_489, Q_NB489_482, Q_BK490, Q_GW490, Q_GE490, Q_NB482_490, Q_NB490_482, Q_BK491, Q_GW491, Q_GE491, Q_NB482_491, Q_NB491_482, fun h0_ => absurd ((hoff 12 (by kernel_rfl)).symm.trans h0_) (by decide), fun h0_ => absurd ((hoff 13 (by kernel_rfl)).symm.trans h0_) (by decide), fun h0_ => absurd ((hoff 14 (by kernel_rfl)).symm.trans h0_) (by decide), Q_X9_, Q_X10_, Q_X11_⟩
     refine steps_cons ?_ ?_
     ·rintro b a w' ⟨Ac, Ad, Ae, m9_, m10_, m11_, ha, Q_HO_3, Q_BK482, Q_HB, Q_NB490_489, Q_NB489_490, Q_NB491_489, Q_NB489_491, Q_NB491_490, Q_NB490_491, Q_BK489, Q_GW489, Q_GE489, Q_NB482_489, Q_NB489_482, Q_BK490, Q_GW490, Q_GE490, Q_NB482_490, Q_NB490_482, Q_BK491, Q_GW491, Q_GE491, Q_NB482_491, Q_NB491_482, Q_BK489_e12, Q_BK490_e13, Q_BK491_e14, Q_X9_, Q_X10_, Q_X11_⟩ hb_ hon hoff
      refine ⟨_, rfl, fun K hK => ?_⟩
      replace ha := Aside0.mk ha
      have Af := Aside0.mk Q_HO_3
      have Ab := Aside0.mk Q_BK482
      have HB := Aside0.mk Q_HB
      refine value_ (w1 := w') (v := .agg #[.int .i64 0, .int .i64 1]) (by rfl) rfl ?_ ?_
      ·go_simp
       (try simp only [i64_w])
       try rfl
      refine hK.out _ _ ⟨Ac, Ad, Ae, m9_, m10_, m11_, (by rw [ha.out]; exact putSel_upk 4 hb_ rfl rfl rfl), Q_HO_3, Q_BK482, Q_HB, Q_NB490_489, Q_NB489_490, Q_NB491_489, Q_NB489_491, Q_NB491_490, Q_NB490_491, Q_BK489, Q_GW489, Q_GE489, Q_NB482_489, Q_NB489_482, Q_BK490, Q_GW490, Q_GE490, Q_NB482_490, Q_NB490_482, Q_BK491, Q_GW491, Q_GE491, Q_NB482_491, Q_NB491_482, fun h0_ => absurd ((hoff 12 (by kernel_rfl)).symm.trans h0_) (by decide), fun h0_ => absurd ((hoff 13 (by kernel_rfl)).symm.trans h0_) (by decide), fun h0_ => absurd ((hoff 14 (by kernel_rfl)).symm.trans h0_) (by decide), Q_X9_, Q_X10_, Q_X11_⟩
     refine steps_cons ?_ ?_
     ·rintro b a w' ⟨Ac, Ad, Ae, m9_, m10_, m11_, ha, Q_HO_3, Q_BK482, Q_HB, Q_NB490_489, Q_NB489_490, Q_NB491_489, Q_NB489_491, Q_NB491_490, Q_NB490_491, Q_BK489, Q_GW489, Q_GE489, Q_NB482_489, Q_NB489_482, Q_BK490, Q_GW490, Q_GE490, Q_NB482_490, Q_NB490_482, Q_BK491, Q_GW491, Q_GE491, Q_NB482_491, Q_NB491_482, Q_BK489_e12, Q_BK490_e13, Q_BK491_e14, Q_X9_, Q_X10_, Q_X11_⟩ hb_ hon hoff
      refine ⟨_, rfl, fun K hK => ?_⟩
      have e31 : a.tmps[31]? = some (.agg #[.int .i64 (wrap64 ((wrap64 (Int.tdiv Aa 27)) - 1)), .int .i64 (wrap64 ((Int.tmod (wrap64 (Int.tdiv Aa 9)) 3) - 1)), .int .i64 (wrap64 ((Int.tmod (wrap64 (Int.tdiv Aa 3)) 3) - 1)), .int .i64 (wrap64 ((Int.tmod Aa 3) - 1))]) := by rw [ha]; exact putSel_on (e := (3, 31, .agg #[.int .i64 (wrap64 ((wrap64 (Int.tdiv Aa 27)) - 1)), .int .i64 (wrap64 ((Int.tmod (wrap64 (Int.tdiv Aa 9)) 3) - 1)), .int .i64 (wrap64 ((Int.tmod (wrap64 (Int.tdiv Aa 3)) 3) - 1)), .int .i64 (wrap64 ((Int.tmod Aa 3) - 1))])) 3 rfl rfl (hon 3 (by kernel_rfl)) rfl
      have e32 : a.tmps[32]? = some (.agg #[.int .i64 0, .int .i64 1]) := by rw [ha]; exact putSel_on (e := (4, 32, .agg #[.int .i64 0, .int .i64 1])) 4 rfl rfl (hon 4 (by kernel_rfl)) rfl
      replace ha := Aside0.mk ha
      have Af := Aside0.mk Q_HO_3
      have Ab := Aside0.mk Q_BK482
      have HB := Aside0.mk Q_HB
      refine goes_ Tryz.func99 (by kernel_rfl) rfl #[.agg #[.int .i64 (wrap64 ((wrap64 (Int.tdiv Aa 27)) - 1)), .int .i64 (wrap64 ((Int.tmod (wrap64 (Int.tdiv Aa 9)) 3) - 1)), .int .i64 (wrap64 ((Int.tmod (wrap64 (Int.tdiv Aa 3)) 3) - 1)), .int .i64 (wrap64 ((Int.tmod Aa 3) - 1))], .agg #[.int .i64 0, .int .i64 1]] (by rfl) rfl rfl (by first | (simp only [List.map_toArray, List.map_cons, List.map_nil, Act.eval, Array.getD_eq_getD_getElem?, Option.getD_some, e31, e32]; done) | (simp only [List.map_toArray, List.map_cons, List.map_nil, Act.eval, Array.getD_eq_getD_getElem?, Option.getD_some, e31, e32]; rfl)) ?_
      with_reducible refine (impl_Mat_apply.calls _ _ _ _ _ _ _ _ _ A6.out).mono ?_
      rintro e CJ ⟨rfl, hb⟩
      refine ⟨_, rfl, ?_⟩
      have AE := asd (Kd.R_below (kr Af) hb)
      have AF := bB Ab hb
      have AG := bS1 HB Aj hb
      have z_BK489 := fun (h0_ : b 9 = true) (h1_ : b 12 = false) => (show CJ.heap[Ac]? = some (.cells #[.int .i64 0, .int .i64 0] 44 (0, 0)) from by first | exact (blk_below (g := Ac) (o := .cells #[.int .i64 0, .int .i64 0] 44 (0, 0)) (by (with_reducible repeat (first | refine blk_drewN ?_ _ | refine blk_drew ?_ | refine blk_alloc ?_ _)); exact (Q_BK489 h0_ h1_)) hb))
      have z_BK490 := fun (h0_ : b 10 = true) (h1_ : b 13 = false) => (show CJ.heap[Ad]? = some (.cells #[.int .i64 0, .int .i64 0] 44 (0, 0)) from by first | exact (blk_below (g := Ad) (o := .cells #[.int .i64 0, .int .i64 0] 44 (0, 0)) (by (with_reducible repeat (first | refine blk_drewN ?_ _ | refine blk_drew ?_ | refine blk_alloc ?_ _)); exact (Q_BK490 h0_ h1_)) hb))
      have z_BK491 := fun (h0_ : b 11 = true) (h1_ : b 14 = false) => (show CJ.heap[Ae]? = some (.cells #[.int .i64 0, .int .i64 0] 44 (0, 0)) from by first | exact (blk_below (g := Ae) (o := .cells #[.int .i64 0, .int .i64 0] 44 (0, 0)) (by (with_reducible repeat (first | refine blk_drewN ?_ _ | refine blk_drew ?_ | refine blk_alloc ?_ _)); exact (Q_BK491 h0_ h1_)) hb))
      clear Af
      clear Ab
      clear HB
      have Af := AE
      have Ab := AF
      have HB := AG
      clear AE AF AG
      (try clear hb)
      (try clear hb2)
      (try clear hk)
      (try clear hi)
      refine hK.out _ _ ⟨Ac, Ad, Ae, m9_, m10_, m11_, (by rw [ha.out]; exact putSel_upk 5 hb_ rfl rfl rfl), (kr Af), (bkp Ab), (bbw1 HB Aj), Q_NB490_489, Q_NB489_490, Q_NB491_489, Q_NB489_491, Q_NB491_490, Q_NB490_491, z_BK489, Q_GW489, Q_GE489, Q_NB482_489, Q_NB489_482, z_BK490, Q_GW490, Q_GE490, Q_NB482_490, Q_NB490_482, z_BK491, Q_GW491, Q_GE491, Q_NB482_491, Q_NB491_482, fun h0_ => absurd ((hoff 12 (by kernel_rfl)).symm.trans h0_) (by decide), fun h0_ => absurd ((hoff 13 (by kernel_rfl)).symm.trans h0_) (by decide), fun h0_ => absurd ((hoff 14 (by kernel_rfl)).symm.trans h0_) (by decide), Q_X9_, Q_X10_, Q_X11_⟩
     refine steps_cons ?_ ?_
     ·rintro b a w' ⟨Ac, Ad, Ae, m9_, m10_, m11_, ha, Q_HO_3, Q_BK482, Q_HB, Q_NB490_489, Q_NB489_490, Q_NB491_489, Q_NB489_491, Q_NB491_490, Q_NB490_491, Q_BK489, Q_GW489, Q_GE489, Q_NB482_489, Q_NB489_482, Q_BK490, Q_GW490, Q_GE490, Q_NB482_490, Q_NB490_482, Q_BK491, Q_GW491, Q_GE491, Q_NB482_491, Q_NB491_482, Q_BK489_e12, Q_BK490_e13, Q_BK491_e14, Q_X9_, Q_X10_, Q_X11_⟩ hb_ hon hoff
      refine ⟨_, rfl, fun K hK => ?_⟩
      have e5 : a.tmps[5]? = some (.pointer (some ⟨Ak, 0, none⟩)) := by rw [ha]; exact (putSel_off rfl).trans rfl
      replace ha := Aside0.mk ha
      have Af := Aside0.mk Q_HO_3
      have Ab := Aside0.mk Q_BK482
      have HB := Aside0.mk Q_HB
      have hc0_ : w'.cell? ⟨Ak, 0, none⟩ = some (.int .i64 (wrap64 ((wrap64 (Int.tdiv Aa 27)) - 1))) := bcl Ab 0
      have hc1_ : w'.cell? ⟨Ak, 1, none⟩ = some (.int .i64 (wrap64 ((Int.tmod (wrap64 (Int.tdiv Aa 9)) 3) - 1))) := bcl Ab 1
      have hc2_ : w'.cell? ⟨Ak, 2, none⟩ = some (.int .i64 (wrap64 ((Int.tmod (wrap64 (Int.tdiv Aa 3)) 3) - 1))) := bcl Ab 2
      have hc3_ : w'.cell? ⟨Ak, 3, none⟩ = some (.int .i64 (wrap64 ((Int.tmod Aa 3) - 1))) := bcl Ab 3
      refine value_ (w1 := w') (v := .agg #[.int .i64 (wrap64 ((wrap64 (Int.tdiv Aa 27)) - 1)), .int .i64 (wrap64 ((Int.tmod (wrap64 (Int.tdiv Aa 9)) 3) - 1)), .int .i64 (wrap64 ((Int.tmod (wrap64 (Int.tdiv Aa 3)) 3) - 1)), .int .i64 (wrap64 ((Int.tmod Aa 3) - 1))]) (by rfl) rfl ?_ ?_
      ·go_simp
       (try simp only [i64_w])
       try rfl
      refine hK.out _ _ ⟨Ac, Ad, Ae, m9_, m10_, m11_, (by rw [ha.out]; exact putSel_upk 6 hb_ rfl rfl rfl), Q_HO_3, Q_BK482, Q_HB, Q_NB490_489, Q_NB489_490, Q_NB491_489, Q_NB489_491, Q_NB491_490, Q_NB490_491, Q_BK489, Q_GW489, Q_GE489, Q_NB482_489, Q_NB489_482, Q_BK490, Q_GW490, Q_GE490, Q_NB482_490, Q_NB490_482, Q_BK491, Q_GW491, Q_GE491, Q_NB482_491, Q_NB491_482, fun h0_ => absurd ((hoff 12 (by kernel_rfl)).symm.trans h0_) (by decide), fun h0_ => absurd ((hoff 13 (by kernel_rfl)).symm.trans h0_) (by decide), fun h0_ => absurd ((hoff 14 (by kernel_rfl)).symm.trans h0_) (by decide), Q_X9_, Q_X10_, Q_X11_⟩
     refine steps_cons ?_ ?_
     ·rintro b a w' ⟨Ac, Ad, Ae, m9_, m10_, m11_, ha, Q_HO_3, Q_BK482, Q_HB, Q_NB490_489, Q_NB489_490, Q_NB491_489, Q_NB489_491, Q_NB491_490, Q_NB490_491, Q_BK489, Q_GW489, Q_GE489, Q_NB482_489, Q_NB489_482, Q_BK490, Q_GW490, Q_GE490, Q_NB482_490, Q_NB490_482, Q_BK491, Q_GW491, Q_GE491, Q_NB482_491, Q_NB491_482, Q_BK489_e12, Q_BK490_e13, Q_BK491_e14, Q_X9_, Q_X10_, Q_X11_⟩ hb_ hon hoff
      refine ⟨_, rfl, fun K hK => ?_⟩
      replace ha := Aside0.mk ha
      have Af := Aside0.mk Q_HO_3
      have Ab := Aside0.mk Q_BK482
      have HB := Aside0.mk Q_HB
      refine value_ (w1 := w') (v := .agg #[.int .i64 1, .int .i64 1]) (by rfl) rfl ?_ ?_
      ·go_simp
       (try simp only [i64_w])
       try rfl
      refine hK.out _ _ ⟨Ac, Ad, Ae, m9_, m10_, m11_, (by rw [ha.out]; exact putSel_upk 7 hb_ rfl rfl rfl), Q_HO_3, Q_BK482, Q_HB, Q_NB490_489, Q_NB489_490, Q_NB491_489, Q_NB489_491, Q_NB491_490, Q_NB490_491, Q_BK489, Q_GW489, Q_GE489, Q_NB482_489, Q_NB489_482, Q_BK490, Q_GW490, Q_GE490, Q_NB482_490, Q_NB490_482, Q_BK491, Q_GW491, Q_GE491, Q_NB482_491, Q_NB491_482, fun h0_ => absurd ((hoff 12 (by kernel_rfl)).symm.trans h0_) (by decide), fun h0_ => absurd ((hoff 13 (by kernel_rfl)).symm.trans h0_) (by decide), fun h0_ => absurd ((hoff 14 (by kernel_rfl)).symm.trans h0_) (by decide), Q_X9_, Q_X10_, Q_X11_⟩
     refine steps_cons ?_ ?_
     ·rintro b a w' ⟨Ac, Ad, Ae, m9_, m10_, m11_, ha, Q_HO_3, Q_BK482, Q_HB, Q_NB490_489, Q_NB489_490, Q_NB491_489, Q_NB489_491, Q_NB491_490, Q_NB490_491, Q_BK489, Q_GW489, Q_GE489, Q_NB482_489, Q_NB489_482, Q_BK490, Q_GW490, Q_GE490, Q_NB482_490, Q_NB490_482, Q_BK491, Q_GW491, Q_GE491, Q_NB482_491, Q_NB491_482, Q_BK489_e12, Q_BK490_e13, Q_BK491_e14, Q_X9_, Q_X10_, Q_X11_⟩ hb_ hon hoff
      refine ⟨_, rfl, fun K hK => ?_⟩
      have e34 : a.tmps[34]? = some (.agg #[.int .i64 (wrap64 ((wrap64 (Int.tdiv Aa 27)) - 1)), .int .i64 (wrap64 ((Int.tmod (wrap64 (Int.tdiv Aa 9)) 3) - 1)), .int .i64 (wrap64 ((Int.tmod (wrap64 (Int.tdiv Aa 3)) 3) - 1)), .int .i64 (wrap64 ((Int.tmod Aa 3) - 1))]) := by rw [ha]; exact putSel_on (e := (6, 34, .agg #[.int .i64 (wrap64 ((wrap64 (Int.tdiv Aa 27)) - 1)), .int .i64 (wrap64 ((Int.tmod (wrap64 (Int.tdiv Aa 9)) 3) - 1)), .int .i64 (wrap64 ((Int.tmod (wrap64 (Int.tdiv Aa 3)) 3) - 1)), .int .i64 (wrap64 ((Int.tmod Aa 3) - 1))])) 6 rfl rfl (hon 6 (by kernel_rfl)) rfl
      have e35 : a.tmps[35]? = some (.agg #[.int .i64 1, .int .i64 1]) := by rw [ha]; exact putSel_on (e := (7, 35, .agg #[.int .i64 1, .int .i64 1])) 7 rfl rfl (hon 7 (by kernel_rfl)) rfl
      replace ha := Aside0.mk ha
      have Af := Aside0.mk Q_HO_3
      have Ab := Aside0.mk Q_BK482
      have HB := Aside0.mk Q_HB
      refine goes_ Tryz.func99 (by kernel_rfl) rfl #[.agg #[.int .i64 (wrap64 ((wrap64 (Int.tdiv Aa 27)) - 1)), .int .i64 (wrap64 ((Int.tmod (wrap64 (Int.tdiv Aa 9)) 3) - 1)), .int .i64 (wrap64 ((Int.tmod (wrap64 (Int.tdiv Aa 3)) 3) - 1)), .int .i64 (wrap64 ((Int.tmod Aa 3) - 1))], .agg #[.int .i64 1, .int .i64 1]] (by rfl) rfl rfl (by first | (simp only [List.map_toArray, List.map_cons, List.map_nil, Act.eval, Array.getD_eq_getD_getElem?, Option.getD_some, e34, e35]; done) | (simp only [List.map_toArray, List.map_cons, List.map_nil, Act.eval, Array.getD_eq_getD_getElem?, Option.getD_some, e34, e35]; rfl)) ?_
      with_reducible refine (impl_Mat_apply.calls _ _ _ _ _ _ _ _ _ A7.out).mono ?_
      rintro e CK ⟨rfl, hb⟩
      refine ⟨_, rfl, ?_⟩
      have AE := asd (Kd.R_below (kr Af) hb)
      have AF := bB Ab hb
      have AG := bS1 HB Aj hb
      have z_BK489 := fun (h0_ : b 9 = true) (h1_ : b 12 = false) => (show CK.heap[Ac]? = some (.cells #[.int .i64 0, .int .i64 0] 44 (0, 0)) from by first | exact (blk_below (g := Ac) (o := .cells #[.int .i64 0, .int .i64 0] 44 (0, 0)) (by (with_reducible repeat (first | refine blk_drewN ?_ _ | refine blk_drew ?_ | refine blk_alloc ?_ _)); exact (Q_BK489 h0_ h1_)) hb))
      have z_BK490 := fun (h0_ : b 10 = true) (h1_ : b 13 = false) => (show CK.heap[Ad]? = some (.cells #[.int .i64 0, .int .i64 0] 44 (0, 0)) from by first | exact (blk_below (g := Ad) (o := .cells #[.int .i64 0, .int .i64 0] 44 (0, 0)) (by (with_reducible repeat (first | refine blk_drewN ?_ _ | refine blk_drew ?_ | refine blk_alloc ?_ _)); exact (Q_BK490 h0_ h1_)) hb))
      have z_BK491 := fun (h0_ : b 11 = true) (h1_ : b 14 = false) => (show CK.heap[Ae]? = some (.cells #[.int .i64 0, .int .i64 0] 44 (0, 0)) from by first | exact (blk_below (g := Ae) (o := .cells #[.int .i64 0, .int .i64 0] 44 (0, 0)) (by (with_reducible repeat (first | refine blk_drewN ?_ _ | refine blk_drew ?_ | refine blk_alloc ?_ _)); exact (Q_BK491 h0_ h1_)) hb))
      clear Af
      clear Ab
      clear HB
      have Af := AE
      have Ab := AF
      have HB := AG
      clear AE AF AG
      (try clear hb)
      (try clear hb2)
      (try clear hk)
      (try clear hi)
      refine hK.out _ _ ⟨Ac, Ad, Ae, m9_, m10_, m11_, (by rw [ha.out]; exact putSel_upk 8 hb_ rfl rfl rfl), (kr Af), (bkp Ab), (bbw1 HB Aj), Q_NB490_489, Q_NB489_490, Q_NB491_489, Q_NB489_491, Q_NB491_490, Q_NB490_491, z_BK489, Q_GW489, Q_GE489, Q_NB482_489, Q_NB489_482, z_BK490, Q_GW490, Q_GE490, Q_NB482_490, Q_NB490_482, z_BK491, Q_GW491, Q_GE491, Q_NB482_491, Q_NB491_482, fun h0_ => absurd ((hoff 12 (by kernel_rfl)).symm.trans h0_) (by decide), fun h0_ => absurd ((hoff 13 (by kernel_rfl)).symm.trans h0_) (by decide), fun h0_ => absurd ((hoff 14 (by kernel_rfl)).symm.trans h0_) (by decide), Q_X9_, Q_X10_, Q_X11_⟩
     refine steps_cons ?_ ?_
     ·rintro b a w' ⟨Ac, Ad, Ae, m9_, m10_, m11_, ha, Q_HO_3, Q_BK482, Q_HB, Q_NB490_489, Q_NB489_490, Q_NB491_489, Q_NB489_491, Q_NB491_490, Q_NB490_491, Q_BK489, Q_GW489, Q_GE489, Q_NB482_489, Q_NB489_482, Q_BK490, Q_GW490, Q_GE490, Q_NB482_490, Q_NB490_482, Q_BK491, Q_GW491, Q_GE491, Q_NB482_491, Q_NB491_482, Q_BK489_e12, Q_BK490_e13, Q_BK491_e14, Q_X9_, Q_X10_, Q_X11_⟩ hb_ hon hoff
      refine ⟨_, rfl, fun K hK => ?_⟩
      replace ha := Aside0.mk ha
      have Af := Aside0.mk Q_HO_3
      have Ab := Aside0.mk Q_BK482
      have HB := Aside0.mk Q_HB
      refine box_step ?hg (N := 6) ?hd (cs := #[.int .i64 0, .int .i64 0]) (t := 44) ?hr ?_; (case hd => rfl); (case hg => rfl); (case hr => first | (go_simp; done) | (go_simp; rfl))
      intro Ac hg AP hbox hb
      have AE := asd (Kd.R_below (kr Af) hb)
      have AF := bB Ab hb
      have AG := bS1 HB Aj hb
      have AU := asd (hbox)
      have AV := ngw1 hg HB Aj
      have AW := ngw1 hg HB Aj
      have A1 := nlt hg Ab
      have A2 := nsy (nlt hg Ab)
      have z_NB490_489 := fun (h0_ : up b 9 9 = true) (h1_ : up b 9 10 = true) => (show Ad ≠ Ac from ((by rw [hg]; exact Nat.ne_of_lt (by cases hq_ : b 13 with | false => exact blk_lt (g := Ad) (Q_BK490 h1_ hq_) | true => exact blk_lt (g := Ad) (Q_BK490_e13 hq_)) : Ad ≠ Ac)))
      have z_NB489_490 := fun (h0_ : up b 9 9 = true) (h1_ : up b 9 10 = true) => (show Ac ≠ Ad from ((by rw [hg]; exact Nat.ne_of_gt (by cases hq_ : b 13 with | false => exact blk_lt (g := Ad) (Q_BK490 h1_ hq_) | true => exact blk_lt (g := Ad) (Q_BK490_e13 hq_)) : Ac ≠ Ad)))
      have z_NB491_489 := fun (h0_ : up b 9 9 = true) (h1_ : up b 9 11 = true) => (show Ae ≠ Ac from ((by rw [hg]; exact Nat.ne_of_lt (by cases hq_ : b 14 with | false => exact blk_lt (g := Ae) (Q_BK491 h1_ hq_) | true => exact blk_lt (g := Ae) (Q_BK491_e14 hq_)) : Ae ≠ Ac)))
      have z_NB489_491 := fun (h0_ : up b 9 9 = true) (h1_ : up b 9 11 = true) => (show Ac ≠ Ae from ((by rw [hg]; exact Nat.ne_of_gt (by cases hq_ : b 14 with | false => exact blk_lt (g := Ae) (Q_BK491 h1_ hq_) | true => exact blk_lt (g := Ae) (Q_BK491_e14 hq_)) : Ac ≠ Ae)))
      have z_BK490 := fun (h0_ : b 10 = true) (h1_ : b 13 = false) => (show AP.heap[Ad]? = some (.cells #[.int .i64 0, .int .i64 0] 44 (0, 0)) from by first | exact (blk_below (g := Ad) (o := .cells #[.int .i64 0, .int .i64 0] 44 (0, 0)) (by (with_reducible repeat (first | refine blk_drewN ?_ _ | refine blk_drew ?_ | refine blk_alloc ?_ _)); exact (Q_BK490 h0_ h1_)) hb))
      have z_BK491 := fun (h0_ : b 11 = true) (h1_ : b 14 = false) => (show AP.heap[Ae]? = some (.cells #[.int .i64 0, .int .i64 0] 44 (0, 0)) from by first | exact (blk_below (g := Ae) (o := .cells #[.int .i64 0, .int .i64 0] 44 (0, 0)) (by (with_reducible repeat (first | refine blk_drewN ?_ _ | refine blk_drew ?_ | refine blk_alloc ?_ _)); exact (Q_BK491 h0_ h1_)) hb))
      clear Af
      clear Ab
      clear HB
      have Af := AE
      have Ab := AF
      have HB := AG
      have Ai := AU
      have AA := AV
      have Ax := AW
      have Aq := A1
      have Aw := A2
      clear AE AF AG AU AV AW A1 A2
      clear hb hbox hg
      refine hK.out _ _ ⟨Ac, Ad, Ae, (.pointer (some ⟨Ac, 0, none⟩)), m10_, m11_, (by rw [ha.out]; exact putSel_upk 9 hb_ rfl rfl rfl), (kr Af), (bkp Ab), (bbw2 HB Aj Ax), @z_NB490_489, @z_NB489_490, @z_NB491_489, @z_NB489_491, Q_NB491_490, Q_NB490_491, fun _ _ => (bkp Ai), fun _ => AA.out, fun _ => Ax.out, fun _ => Aq.out, fun _ => Aw.out, z_BK490, Q_GW490, Q_GE490, Q_NB482_490, Q_NB490_482, z_BK491, Q_GW491, Q_GE491, Q_NB482_491, Q_NB491_482, fun h0_ => absurd ((hoff 12 (by kernel_rfl)).symm.trans h0_) (by decide), fun h0_ => absurd ((hoff 13 (by kernel_rfl)).symm.trans h0_) (by decide), fun h0_ => absurd ((hoff 14 (by kernel_rfl)).symm.trans h0_) (by decide), fun _ => rfl, Q_X10_, Q_X11_⟩
     refine steps_cons ?_ ?_
     ·rintro b a w' ⟨Ac, Ad, Ae, m9_, m10_, m11_, ha, Q_HO_3, Q_BK482, Q_HB, Q_NB490_489, Q_NB489_490, Q_NB491_489, Q_NB489_491, Q_NB491_490, Q_NB490_491, Q_BK489, Q_GW489, Q_GE489, Q_NB482_489, Q_NB489_482, Q_BK490, Q_GW490, Q_GE490, Q_NB482_490, Q_NB490_482, Q_BK491, Q_GW491, Q_GE491, Q_NB482_491, Q_NB491_482, Q_BK489_e12, Q_BK490_e13, Q_BK491_e14, Q_X9_, Q_X10_, Q_X11_⟩ hb_ hon hoff
      refine ⟨_, rfl, fun K hK => ?_⟩
      replace ha := Aside0.mk ha
      have Af := Aside0.mk Q_HO_3
      have Ab := Aside0.mk Q_BK482
      have HB := Aside0.mk Q_HB
      refine box_step ?hg (N := 7) ?hd (cs := #[.int .i64 0, .int .i64 0]) (t := 44) ?hr ?_; (case hd => rfl); (case hg => rfl); (case hr => first | (go_simp; done) | (go_simp; rfl))
      intro Ad hg AP hbox hb
      have AE := asd (Kd.R_below (kr Af) hb)
      have AF := bB Ab hb
      have AG := bS1 HB Aj hb
      have AU := asd (hbox)
      have AV := ngw1 hg HB Aj
      have AW := ngw1 hg HB Aj
      have A1 := nlt hg Ab
      have A2 := nsy (nlt hg Ab)
      have z_NB490_489 := fun (h0_ : up b 10 9 = true) (h1_ : up b 10 10 = true) => (show Ad ≠ Ac from ((by rw [hg]; exact Nat.ne_of_gt (by cases hq_ : b 12 with | false => exact blk_lt (g := Ac) (Q_BK489 h0_ hq_) | true => exact blk_lt (g := Ac) (Q_BK489_e12 hq_)) : Ad ≠ Ac)))
      have z_NB489_490 := fun (h0_ : up b 10 9 = true) (h1_ : up b 10 10 = true) => (show Ac ≠ Ad from ((by rw [hg]; exact Nat.ne_of_lt (by cases hq_ : b 12 with | false => exact blk_lt (g := Ac) (Q_BK489 h0_ hq_) | true => exact blk_lt (g := Ac) (Q_BK489_e12 hq_)) : Ac ≠ Ad)))
      have z_NB491_490 := fun (h0_ : up b 10 10 = true) (h1_ : up b 10 11 = true) => (show Ae ≠ Ad from ((by rw [hg]; exact Nat.ne_of_lt (by cases hq_ : b 14 with | false => exact blk_lt (g := Ae) (Q_BK491 h1_ hq_) | true => exact blk_lt (g := Ae) (Q_BK491_e14 hq_)) : Ae ≠ Ad)))
      have z_NB490_491 := fun (h0_ : up b 10 10 = true) (h1_ : up b 10 11 = true) => (show Ad ≠ Ae from ((by rw [hg]; exact Nat.ne_of_gt (by cases hq_ : b 14 with | false => exact blk_lt (g := Ae) (Q_BK491 h1_ hq_) | true => exact blk_lt (g := Ae) (Q_BK491_e14 hq_)) : Ad ≠ Ae)))
      have z_BK489 := fun (h0_ : b 9 = true) (h1_ : b 12 = false) => (show AP.heap[Ac]? = some (.cells #[.int .i64 0, .int .i64 0] 44 (0, 0)) from by first | exact (blk_below (g := Ac) (o := .cells #[.int .i64 0, .int .i64 0] 44 (0, 0)) (by (with_reducible repeat (first | refine blk_drewN ?_ _ | refine blk_drew ?_ | refine blk_alloc ?_ _)); exact (Q_BK489 h0_ h1_)) hb))
      have z_BK491 := fun (h0_ : b 11 = true) (h1_ : b 14 = false) => (show AP.heap[Ae]? = some (.cells #[.int .i64 0, .int .i64 0] 44 (0, 0)) from by first | exact (blk_below (g := Ae) (o := .cells #[.int .i64 0, .int .i64 0] 44 (0, 0)) (by (with_reducible repeat (first | refine blk_drewN ?_ _ | refine blk_drew ?_ | refine blk_alloc ?_ _)); exact (Q_BK491 h0_ h1_)) hb))
      clear Af
      clear Ab
      clear HB
      have Af := AE
      have Ab := AF
      have HB := AG
      have Ag := AU
      have AB := AV
      have Ay := AW
      have Al := A1
      have Ao := A2
      clear AE AF AG AU AV AW A1 A2
      clear hb hbox hg
      refine hK.out _ _ ⟨Ac, Ad, Ae, m9_, (.pointer (some ⟨Ad, 0, none⟩)), m11_, (by rw [ha.out]; exact putSel_upk 10 hb_ rfl rfl rfl), (kr Af), (bkp Ab), (bbw2 HB Aj Ay), @z_NB490_489, @z_NB489_490, Q_NB491_489, Q_NB489_491, @z_NB491_490, @z_NB490_491, z_BK489, Q_GW489, Q_GE489, Q_NB482_489, Q_NB489_482, fun _ _ => (bkp Ag), fun _ => AB.out, fun _ => Ay.out, fun _ => Al.out, fun _ => Ao.out, z_BK491, Q_GW491, Q_GE491, Q_NB482_491, Q_NB491_482, fun h0_ => absurd ((hoff 12 (by kernel_rfl)).symm.trans h0_) (by decide), fun h0_ => absurd ((hoff 13 (by kernel_rfl)).symm.trans h0_) (by decide), fun h0_ => absurd ((hoff 14 (by kernel_rfl)).symm.trans h0_) (by decide), Q_X9_, fun _ => rfl, Q_X11_⟩
     refine steps_cons ?_ ?_
     ·rintro b a w' ⟨Ac, Ad, Ae, m9_, m10_, m11_, ha, Q_HO_3, Q_BK482, Q_HB, Q_NB490_489, Q_NB489_490, Q_NB491_489, Q_NB489_491, Q_NB491_490, Q_NB490_491, Q_BK489, Q_GW489, Q_GE489, Q_NB482_489, Q_NB489_482, Q_BK490, Q_GW490, Q_GE490, Q_NB482_490, Q_NB490_482, Q_BK491, Q_GW491, Q_GE491, Q_NB482_491, Q_NB491_482, Q_BK489_e12, Q_BK490_e13, Q_BK491_e14, Q_X9_, Q_X10_, Q_X11_⟩ hb_ hon hoff
      refine ⟨_, rfl, fun K hK => ?_⟩
      replace ha := Aside0.mk ha
      have Af := Aside0.mk Q_HO_3
      have Ab := Aside0.mk Q_BK482
      have HB := Aside0.mk Q_HB
      refine box_step ?hg (N := 8) ?hd (cs := #[.int .i64 0, .int .i64 0]) (t := 44) ?hr ?_; (case hd => rfl); (case hg => rfl); (case hr => first | (go_simp; done) | (go_simp; rfl))
      intro Ae hg AP hbox hb
      have AE := asd (Kd.R_below (kr Af) hb)
      have AF := bB Ab hb
      have AG := bS1 HB Aj hb
      have AU := asd (hbox)
      have AV := ngw1 hg HB Aj
      have AW := ngw1 hg HB Aj
      have A1 := nlt hg Ab
      have A2 := nsy (nlt hg Ab)
      have z_NB491_489 := fun (h0_ : up b 11 9 = true) (h1_ : up b 11 11 = true) => (show Ae ≠ Ac from ((by rw [hg]; exact Nat.ne_of_gt (by cases hq_ : b 12 with | false => exact blk_lt (g := Ac) (Q_BK489 h0_ hq_) | true => exact blk_lt (g := Ac) (Q_BK489_e12 hq_)) : Ae ≠ Ac)))
      have z_NB489_491 := fun (h0_ : up b 11 9 = true) (h1_ : up b 11 11 = true) => (show Ac ≠ Ae from ((by rw [hg]; exact Nat.ne_of_lt (by cases hq_ : b 12 with | false => exact blk_lt (g := Ac) (Q_BK489 h0_ hq_) | true => exact blk_lt (g := Ac) (Q_BK489_e12 hq_)) : Ac ≠ Ae)))
      have z_NB491_490 := fun (h0_ : up b 11 10 = true) (h1_ : up b 11 11 = true) => (show Ae ≠ Ad from ((by rw [hg]; exact Nat.ne_of_gt (by cases hq_ : b 13 with | false => exact blk_lt (g := Ad) (Q_BK490 h0_ hq_) | true => exact blk_lt (g := Ad) (Q_BK490_e13 hq_)) : Ae ≠ Ad)))
      have z_NB490_491 := fun (h0_ : up b 11 10 = true) (h1_ : up b 11 11 = true) => (show Ad ≠ Ae from ((by rw [hg]; exact Nat.ne_of_lt (by cases hq_ : b 13 with | false => exact blk_lt (g := Ad) (Q_BK490 h0_ hq_) | true => exact blk_lt (g := Ad) (Q_BK490_e13 hq_)) : Ad ≠ Ae)))
      have z_BK489 := fun (h0_ : b 9 = true) (h1_ : b 12 = false) => (show AP.heap[Ac]? = some (.cells #[.int .i64 0, .int .i64 0] 44 (0, 0)) from by first | exact (blk_below (g := Ac) (o := .cells #[.int .i64 0, .int .i64 0] 44 (0, 0)) (by (with_reducible repeat (first | refine blk_drewN ?_ _ | refine blk_drew ?_ | refine blk_alloc ?_ _)); exact (Q_BK489 h0_ h1_)) hb))
      have z_BK490 := fun (h0_ : b 10 = true) (h1_ : b 13 = false) => (show AP.heap[Ad]? = some (.cells #[.int .i64 0, .int .i64 0] 44 (0, 0)) from by first | exact (blk_below (g := Ad) (o := .cells #[.int .i64 0, .int .i64 0] 44 (0, 0)) (by (with_reducible repeat (first | refine blk_drewN ?_ _ | refine blk_drew ?_ | refine blk_alloc ?_ _)); exact (Q_BK490 h0_ h1_)) hb))
      clear Af
      clear Ab
      clear HB
      have Af := AE
      have Ab := AF
      have HB := AG
      have Ah := AU
      have AC := AV
      have Az := AW
      have Ap := A1
      have Ar := A2
      clear AE AF AG AU AV AW A1 A2
      clear hb hbox hg
      refine hK.out _ _ ⟨Ac, Ad, Ae, m9_, m10_, (.pointer (some ⟨Ae, 0, none⟩)), (by rw [ha.out]; exact putSel_upk 11 hb_ rfl rfl rfl), (kr Af), (bkp Ab), (bbw2 HB Aj Az), Q_NB490_489, Q_NB489_490, @z_NB491_489, @z_NB489_491, @z_NB491_490, @z_NB490_491, z_BK489, Q_GW489, Q_GE489, Q_NB482_489, Q_NB489_482, z_BK490, Q_GW490, Q_GE490, Q_NB482_490, Q_NB490_482, fun _ _ => (bkp Ah), fun _ => AC.out, fun _ => Az.out, fun _ => Ap.out, fun _ => Ar.out, fun h0_ => absurd ((hoff 12 (by kernel_rfl)).symm.trans h0_) (by decide), fun h0_ => absurd ((hoff 13 (by kernel_rfl)).symm.trans h0_) (by decide), fun h0_ => absurd ((hoff 14 (by kernel_rfl)).symm.trans h0_) (by decide), Q_X9_, Q_X10_, fun _ => rfl⟩
     refine steps_cons ?_ ?_
     ·rintro b a w' ⟨Ac, Ad, Ae, m9_, m10_, m11_, ha, Q_HO_3, Q_BK482, Q_HB, Q_NB490_489, Q_NB489_490, Q_NB491_489, Q_NB489_491, Q_NB491_490, Q_NB490_491, Q_BK489, Q_GW489, Q_GE489, Q_NB482_489, Q_NB489_482, Q_BK490, Q_GW490, Q_GE490, Q_NB482_490, Q_NB490_482, Q_BK491, Q_GW491, Q_GE491, Q_NB482_491, Q_NB491_482, Q_BK489_e12, Q_BK490_e13, Q_BK491_e14, Q_X9_, Q_X10_, Q_X11_⟩ hb_ hon hoff
      refine ⟨_, rfl, fun K hK => ?_⟩
      have e6 : a.tmps[6]? = some (m9_) := by rw [ha]; exact putSel_on (e := (9, 6, m9_)) 9 rfl rfl (hon 9 (by kernel_rfl)) rfl
      rw [Q_X9_ (hon 9 (by kernel_rfl))] at e6
      have e30 : a.tmps[30]? = some (.agg #[.int .i64 AI, .int .i64 AJ]) := by rw [ha]; exact putSel_on (e := (2, 30, .agg #[.int .i64 AI, .int .i64 AJ])) 2 rfl rfl (hon 2 (by kernel_rfl)) rfl
      replace ha := Aside0.mk ha
      have Af := Aside0.mk Q_HO_3
      have Ab := Aside0.mk Q_BK482
      have HB := Aside0.mk Q_HB
      have As := asd (Q_NB490_489 (hon 9 (by kernel_rfl)) (hon 10 (by kernel_rfl)))
      have At := asd (Q_NB489_490 (hon 9 (by kernel_rfl)) (hon 10 (by kernel_rfl)))
      have Au := asd (Q_NB491_489 (hon 9 (by kernel_rfl)) (hon 11 (by kernel_rfl)))
      have Av := asd (Q_NB489_491 (hon 9 (by kernel_rfl)) (hon 11 (by kernel_rfl)))
      have Am := asd (Q_NB491_490 (hon 10 (by kernel_rfl)) (hon 11 (by kernel_rfl)))
      have An := asd (Q_NB490_491 (hon 10 (by kernel_rfl)) (hon 11 (by kernel_rfl)))
      have Ai := asd (Q_BK489 (hon 9 (by kernel_rfl)) hb_)
      have AA := asd (Q_GW489 (hon 9 (by kernel_rfl)))
      have Ax := asd (Q_GE489 (hon 9 (by kernel_rfl)))
      have Aq := asd (Q_NB482_489 (hon 9 (by kernel_rfl)))
      have Aw := asd (Q_NB489_482 (hon 9 (by kernel_rfl)))
      have Ag := asd (Q_BK490 (hon 10 (by kernel_rfl)) (hoff 13 (by kernel_rfl)))
      have AB := asd (Q_GW490 (hon 10 (by kernel_rfl)))
      have Ay := asd (Q_GE490 (hon 10 (by kernel_rfl)))
      have Al := asd (Q_NB482_490 (hon 10 (by kernel_rfl)))
      have Ao := asd (Q_NB490_482 (hon 10 (by kernel_rfl)))
      have Ah := asd (Q_BK491 (hon 11 (by kernel_rfl)) (hoff 14 (by kernel_rfl)))
      have AC := asd (Q_GW491 (hon 11 (by kernel_rfl)))
      have Az := asd (Q_GE491 (hon 11 (by kernel_rfl)))
      have Ap := asd (Q_NB482_491 (hon 11 (by kernel_rfl)))
      have Ar := asd (Q_NB491_482 (hon 11 (by kernel_rfl)))
      have hs26 : w'.cell? ⟨Ac, 0, none⟩ = some (.int .i64 0) := bcl Ai 0
      have hfs26 := blk_frozen Ai.out 0
      have Bt := Aq.out
      have Bu := As.out
      have Bv := Au.out
      have Bw := Aw.out
      have Bx := At.out
      have By := Av.out
      have hs27 : w'.cell? ⟨Ac, 1, none⟩ = some (.int .i64 0) := bcl Ai 1
      have hfs27 := blk_frozen Ai.out 1
      have Bz := Aq.out
      have BA := As.out
      have BB := Au.out
      have BC := Aw.out
      have BD := At.out
      have BE := Av.out
      refine skip_ (w1 := ?_) (by rfl) rfl ?_ ?_
      rotate_left
      ·go_simp
       rfl
      refine hK.out _ _ ⟨Ac, Ad, Ae, m9_, m10_, m11_, (by rw [ha.out]; exact putSel_none (v := undef) rfl), (by (with_reducible repeat (first | apply Kd.R_alloc | apply Kd.R_drewN | apply Kd.R_drew)); exact Kd.R_mono (rw2 (Kd.R_types Af.out Ai.out (by decide))) (fun _ hk => hk.1)), (bq1 Ab Aq), (bbw4 HB Aj Ax Ay Az), fun _ _ => As.out, fun _ _ => At.out, fun _ _ => Au.out, fun _ _ => Av.out, fun _ _ => Am.out, fun _ _ => An.out, fun _ h1_ => absurd ((up_self b 12).symm.trans h1_) (by decide), fun _ => AA.out, fun _ => Ax.out, fun _ => Aq.out, fun _ => Aw.out, fun _ _ => (bq1 Ag As), fun _ => AB.out, fun _ => Ay.out, fun _ => Al.out, fun _ => Ao.out, fun _ _ => (bq1 Ah Au), fun _ => AC.out, fun _ => Az.out, fun _ => Ap.out, fun _ => Ar.out, fun _ => (bq0 Ai), fun h0_ => absurd ((hoff 13 (by kernel_rfl)).symm.trans h0_) (by decide), fun h0_ => absurd ((hoff 14 (by kernel_rfl)).symm.trans h0_) (by decide), Q_X9_, Q_X10_, Q_X11_⟩
     refine steps_cons ?_ ?_
     ·rintro b a w' ⟨Ac, Ad, Ae, m9_, m10_, m11_, ha, Q_HO_3, Q_BK482, Q_HB, Q_NB490_489, Q_NB489_490, Q_NB491_489, Q_NB489_491, Q_NB491_490, Q_NB490_491, Q_BK489, Q_GW489, Q_GE489, Q_NB482_489, Q_NB489_482, Q_BK490, Q_GW490, Q_GE490, Q_NB482_490, Q_NB490_482, Q_BK491, Q_GW491, Q_GE491, Q_NB482_491, Q_NB491_482, Q_BK489_e12, Q_BK490_e13, Q_BK491_e14, Q_X9_, Q_X10_, Q_X11_⟩ hb_ hon hoff
      refine ⟨_, rfl, fun K hK => ?_⟩
      have e7 : a.tmps[7]? = some (m10_) := by rw [ha]; exact putSel_on (e := (10, 7, m10_)) 10 rfl rfl (hon 10 (by kernel_rfl)) rfl
      rw [Q_X10_ (hon 10 (by kernel_rfl))] at e7
      have e33 : a.tmps[33]? = some (.agg #[.int .i64 AQ, .int .i64 AR]) := by rw [ha]; exact putSel_on (e := (5, 33, .agg #[.int .i64 AQ, .int .i64 AR])) 5 rfl rfl (hon 5 (by kernel_rfl)) rfl
      replace ha := Aside0.mk ha
      have Af := Aside0.mk Q_HO_3
      have Ab := Aside0.mk Q_BK482
      have HB := Aside0.mk Q_HB
      have As := asd (Q_NB490_489 (hon 9 (by kernel_rfl)) (hon 10 (by kernel_rfl)))
      have At := asd (Q_NB489_490 (hon 9 (by kernel_rfl)) (hon 10 (by kernel_rfl)))
      have Au := asd (Q_NB491_489 (hon 9 (by kernel_rfl)) (hon 11 (by kernel_rfl)))
      have Av := asd (Q_NB489_491 (hon 9 (by kernel_rfl)) (hon 11 (by kernel_rfl)))
      have Am := asd (Q_NB491_490 (hon 10 (by kernel_rfl)) (hon 11 (by kernel_rfl)))
      have An := asd (Q_NB490_491 (hon 10 (by kernel_rfl)) (hon 11 (by kernel_rfl)))
      have AA := asd (Q_GW489 (hon 9 (by kernel_rfl)))
      have Ax := asd (Q_GE489 (hon 9 (by kernel_rfl)))
      have Aq := asd (Q_NB482_489 (hon 9 (by kernel_rfl)))
      have Aw := asd (Q_NB489_482 (hon 9 (by kernel_rfl)))
      have Ag := asd (Q_BK490 (hon 10 (by kernel_rfl)) hb_)
      have AB := asd (Q_GW490 (hon 10 (by kernel_rfl)))
      have Ay := asd (Q_GE490 (hon 10 (by kernel_rfl)))
      have Al := asd (Q_NB482_490 (hon 10 (by kernel_rfl)))
      have Ao := asd (Q_NB490_482 (hon 10 (by kernel_rfl)))
      have Ah := asd (Q_BK491 (hon 11 (by kernel_rfl)) (hoff 14 (by kernel_rfl)))
      have AC := asd (Q_GW491 (hon 11 (by kernel_rfl)))
      have Az := asd (Q_GE491 (hon 11 (by kernel_rfl)))
      have Ap := asd (Q_NB482_491 (hon 11 (by kernel_rfl)))
      have Ar := asd (Q_NB491_482 (hon 11 (by kernel_rfl)))
      have Ai := asd (Q_BK489_e12 (hon 12 (by kernel_rfl)))
      have hs28 : w'.cell? ⟨Ad, 0, none⟩ = some (.int .i64 0) := bcl Ag 0
      have hfs28 := blk_frozen Ag.out 0
      have BF := Al.out
      have BG := At.out
      have BH := Am.out
      have BI := Ao.out
      have BJ := As.out
      have BK := An.out
      have hs29 : w'.cell? ⟨Ad, 1, none⟩ = some (.int .i64 0) := bcl Ag 1
      have hfs29 := blk_frozen Ag.out 1
      have BL := Al.out
      have BM := At.out
      have BN := Am.out
      have BO := Ao.out
      have BP := As.out
      have BQ := An.out
      refine skip_ (w1 := ?_) (by rfl) rfl ?_ ?_
      rotate_left
      ·go_simp
       rfl
      refine hK.out _ _ ⟨Ac, Ad, Ae, m9_, m10_, m11_, (by rw [ha.out]; exact putSel_none (v := undef) rfl), (by (with_reducible repeat (first | apply Kd.R_alloc | apply Kd.R_drewN | apply Kd.R_drew)); exact Kd.R_mono (rw2 (Kd.R_types Af.out Ag.out (by decide))) (fun _ hk => hk.1)), (bq1 Ab Al), (bbw4 HB Aj Ax Ay Az), fun _ _ => As.out, fun _ _ => At.out, fun _ _ => Au.out, fun _ _ => Av.out, fun _ _ => Am.out, fun _ _ => An.out, fun _ h1_ => absurd ((hon 12 (by kernel_rfl)).symm.trans h1_) (by decide), fun _ => AA.out, fun _ => Ax.out, fun _ => Aq.out, fun _ => Aw.out, fun _ h1_ => absurd ((up_self b 13).symm.trans h1_) (by decide), fun _ => AB.out, fun _ => Ay.out, fun _ => Al.out, fun _ => Ao.out, fun _ _ => (bq1 Ah Am), fun _ => AC.out, fun _ => Az.out, fun _ => Ap.out, fun _ => Ar.out, fun _ => (bq1 Ai At), fun _ => (bq0 Ag), fun h0_ => absurd ((hoff 14 (by kernel_rfl)).symm.trans h0_) (by decide), Q_X9_, Q_X10_, Q_X11_⟩
     refine steps_cons ?_ ?_
     ·rintro b a w' ⟨Ac, Ad, Ae, m9_, m10_, m11_, ha, Q_HO_3, Q_BK482, Q_HB, Q_NB490_489, Q_NB489_490, Q_NB491_489, Q_NB489_491, Q_NB491_490, Q_NB490_491, Q_BK489, Q_GW489, Q_GE489, Q_NB482_489, Q_NB489_482, Q_BK490, Q_GW490, Q_GE490, Q_NB482_490, Q_NB490_482, Q_BK491, Q_GW491, Q_GE491, Q_NB482_491, Q_NB491_482, Q_BK489_e12, Q_BK490_e13, Q_BK491_e14, Q_X9_, Q_X10_, Q_X11_⟩ hb_ hon hoff
      refine ⟨_, rfl, fun K hK => ?_⟩
      have e8 : a.tmps[8]? = some (m11_) := by rw [ha]; exact putSel_on (e := (11, 8, m11_)) 11 rfl rfl (hon 11 (by kernel_rfl)) rfl
      rw [Q_X11_ (hon 11 (by kernel_rfl))] at e8
      have e36 : a.tmps[36]? = some (.agg #[.int .i64 AS, .int .i64 AT]) := by rw [ha]; exact putSel_on (e := (8, 36, .agg #[.int .i64 AS, .int .i64 AT])) 8 rfl rfl (hon 8 (by kernel_rfl)) rfl
      replace ha := Aside0.mk ha
      have Af := Aside0.mk Q_HO_3
      have Ab := Aside0.mk Q_BK482
      have HB := Aside0.mk Q_HB
      have As := asd (Q_NB490_489 (hon 9 (by kernel_rfl)) (hon 10 (by kernel_rfl)))
      have At := asd (Q_NB489_490 (hon 9 (by kernel_rfl)) (hon 10 (by kernel_rfl)))
      have Au := asd (Q_NB491_489 (hon 9 (by kernel_rfl)) (hon 11 (by kernel_rfl)))
      have Av := asd (Q_NB489_491 (hon 9 (by kernel_rfl)) (hon 11 (by kernel_rfl)))
      have Am := asd (Q_NB491_490 (hon 10 (by kernel_rfl)) (hon 11 (by kernel_rfl)))
      have An := asd (Q_NB490_491 (hon 10 (by kernel_rfl)) (hon 11 (by kernel_rfl)))
      have AA := asd (Q_GW489 (hon 9 (by kernel_rfl)))
      have Ax := asd (Q_GE489 (hon 9 (by kernel_rfl)))
      have Aq := asd (Q_NB482_489 (hon 9 (by kernel_rfl)))
      have Aw := asd (Q_NB489_482 (hon 9 (by kernel_rfl)))
      have AB := asd (Q_GW490 (hon 10 (by kernel_rfl)))
      have Ay := asd (Q_GE490 (hon 10 (by kernel_rfl)))
      have Al := asd (Q_NB482_490 (hon 10 (by kernel_rfl)))
      have Ao := asd (Q_NB490_482 (hon 10 (by kernel_rfl)))
      have Ah := asd (Q_BK491 (hon 11 (by kernel_rfl)) hb_)
      have AC := asd (Q_GW491 (hon 11 (by kernel_rfl)))
      have Az := asd (Q_GE491 (hon 11 (by kernel_rfl)))
      have Ap := asd (Q_NB482_491 (hon 11 (by kernel_rfl)))
      have Ar := asd (Q_NB491_482 (hon 11 (by kernel_rfl)))
      have Ai := asd (Q_BK489_e12 (hon 12 (by kernel_rfl)))
      have Ag := asd (Q_BK490_e13 (hon 13 (by kernel_rfl)))
      have hs30 : w'.cell? ⟨Ae, 0, none⟩ = some (.int .i64 0) := bcl Ah 0
      have hfs30 := blk_frozen Ah.out 0
      have BR := Ap.out
      have BS := Av.out
      have BT := An.out
      have BU := Ar.out
      have BV := Au.out
      have BW := Am.out
      have hs31 : w'.cell? ⟨Ae, 1, none⟩ = some (.int .i64 0) := bcl Ah 1
      have hfs31 := blk_frozen Ah.out 1
      have BX := Ap.out
      have BY := Av.out
      have BZ := An.out
      have B0 := Ar.out
      have B3 := Au.out
      have B8 := Am.out
      refine skip_ (w1 := ?_) (by rfl) rfl ?_ ?_
      rotate_left
      ·go_simp
       rfl
      refine hK.out _ _ ⟨Ac, Ad, Ae, m9_, m10_, m11_, (by rw [ha.out]; exact putSel_none (v := undef) rfl), (by (with_reducible repeat (first | apply Kd.R_alloc | apply Kd.R_drewN | apply Kd.R_drew)); exact Kd.R_mono (rw2 (Kd.R_types Af.out Ah.out (by decide))) (fun _ hk => hk.1)), (bq1 Ab Ap), (bbw4 HB Aj Ax Ay Az), fun _ _ => As.out, fun _ _ => At.out, fun _ _ => Au.out, fun _ _ => Av.out, fun _ _ => Am.out, fun _ _ => An.out, fun _ h1_ => absurd ((hon 12 (by kernel_rfl)).symm.trans h1_) (by decide), fun _ => AA.out, fun _ => Ax.out, fun _ => Aq.out, fun _ => Aw.out, fun _ h1_ => absurd ((hon 13 (by kernel_rfl)).symm.trans h1_) (by decide), fun _ => AB.out, fun _ => Ay.out, fun _ => Al.out, fun _ => Ao.out, fun _ h1_ => absurd ((up_self b 14).symm.trans h1_) (by decide), fun _ => AC.out, fun _ => Az.out, fun _ => Ap.out, fun _ => Ar.out, fun _ => (bq1 Ai Av), fun _ => (bq1 Ag An), fun _ => (bq0 Ah), Q_X9_, Q_X10_, Q_X11_⟩
     exact steps_nil
    rintro b a Df hall ⟨Ac, Ad, Ae, m9_, m10_, m11_, ha, Q_HO_3, Q_BK482, Q_HB, Q_NB490_489, Q_NB489_490, Q_NB491_489, Q_NB489_491, Q_NB491_490, Q_NB490_491, Q_BK489, Q_GW489, Q_GE489, Q_NB482_489, Q_NB489_482, Q_BK490, Q_GW490, Q_GE490, Q_NB482_490, Q_NB490_482, Q_BK491, Q_GW491, Q_GE491, Q_NB482_491, Q_NB491_482, Q_BK489_e12, Q_BK490_e13, Q_BK491_e14, Q_X9_, Q_X10_, Q_X11_⟩
    clear Ab HB Af
    have hb0_ := hall 0 (by kernel_rfl)
    have hb1_ := hall 1 (by kernel_rfl)
    have hb2_ := hall 2 (by kernel_rfl)
    have hb3_ := hall 3 (by kernel_rfl)
    have hb4_ := hall 4 (by kernel_rfl)
    have hb5_ := hall 5 (by kernel_rfl)
    have hb6_ := hall 6 (by kernel_rfl)
    have hb7_ := hall 7 (by kernel_rfl)
    have hb8_ := hall 8 (by kernel_rfl)
    have hb9_ := hall 9 (by kernel_rfl)
    have hb10_ := hall 10 (by kernel_rfl)
    have hb11_ := hall 11 (by kernel_rfl)
    have hb12_ := hall 12 (by kernel_rfl)
    have hb13_ := hall 13 (by kernel_rfl)
    have hb14_ := hall 14 (by kernel_rfl)
    subst ha
    obtain rfl := Q_X9_ hb9_
    obtain rfl := Q_X10_ hb10_
    obtain rfl := Q_X11_ hb11_
    simp only [putSel, hb0_, hb1_, hb2_, hb3_, hb4_, hb5_, hb6_, hb7_, hb8_, hb9_, hb10_, hb11_, hb12_, hb13_, hb14_, if_true, Act.put, sA, sB, sC]
    have Af := Aside0.mk Q_HO_3
    clear Q_HO_3
    have Ab := Aside0.mk Q_BK482
    clear Q_BK482
    have HB := Aside0.mk Q_HB
    clear Q_HB
    have As := asd (Q_NB490_489 hb9_ hb10_)
    clear Q_NB490_489
    have At := asd (Q_NB489_490 hb9_ hb10_)
    clear Q_NB489_490
    have Au := asd (Q_NB491_489 hb9_ hb11_)
    clear Q_NB491_489
    have Av := asd (Q_NB489_491 hb9_ hb11_)
    clear Q_NB489_491
    have Am := asd (Q_NB491_490 hb10_ hb11_)
    clear Q_NB491_490
    have An := asd (Q_NB490_491 hb10_ hb11_)
    clear Q_NB490_491
    clear Q_BK489
    have AA := asd (Q_GW489 hb9_)
    clear Q_GW489
    have Ax := asd (Q_GE489 hb9_)
    clear Q_GE489
    have Aq := asd (Q_NB482_489 hb9_)
    clear Q_NB482_489
    have Aw := asd (Q_NB489_482 hb9_)
    clear Q_NB489_482
    clear Q_BK490
    have AB := asd (Q_GW490 hb10_)
    clear Q_GW490
    have Ay := asd (Q_GE490 hb10_)
    clear Q_GE490
    have Al := asd (Q_NB482_490 hb10_)
    clear Q_NB482_490
    have Ao := asd (Q_NB490_482 hb10_)
    clear Q_NB490_482
    clear Q_BK491
    have AC := asd (Q_GW491 hb11_)
    clear Q_GW491
    have Az := asd (Q_GE491 hb11_)
    clear Q_GE491
    have Ap := asd (Q_NB482_491 hb11_)
    clear Q_NB482_491
    have Ar := asd (Q_NB491_482 hb11_)
    clear Q_NB491_482
    have Ai := asd (Q_BK489_e12 hb12_)
    clear Q_BK489_e12
    have Ag := asd (Q_BK490_e13 hb13_)
    clear Q_BK490_e13
    have Ah := asd (Q_BK491_e14 hb14_)
    clear Q_BK491_e14
    clear hall hb0_ hb1_ hb2_ hb3_ hb4_ hb5_ hb6_ hb7_ hb8_ hb9_ hb10_ hb11_ hb12_ hb13_ hb14_
    have CO := Aw.out
    have CP := Aq.out
    have CQ := At.out
    have CR := As.out
    have CS := Av.out
    have CT := Au.out
    obtain ⟨Ca, Cb, Cc, Cd⟩ := bz2 Ai
    have H := Hq_.out
    clear Hq_
    obtain ⟨AM, A8, H⟩ := ob H
    try dsimp only at H
    by_cases c9 : AM = 1
    rw [if_pos c9] at H
    have CL : (AM == 1) = true := beq_iff_eq.mpr c9
    have CM : (AM != 1) = false := bne_eq_false_iff_eq.mpr c9
    clear c9
    obtain ⟨AN, CN, H⟩ := ob H
    try dsimp only at H
    by_cases A3 : AN = 1
    rw [if_pos A3] at H
    have Bc : (AN == 1) = true := beq_iff_eq.mpr A3
    have Bd : (AN != 1) = false := bne_eq_false_iff_eq.mpr A3
    clear A3
    obtain ⟨AO, CU, H⟩ := ob H
    try dsimp only at H
    by_cases A4 : AO = (wrap64 (2 + a0))
    rw [if_pos A4] at H
    have Be : (AO == (wrap64 (2 + a0))) = true := beq_iff_eq.mpr A4
    have Bf : (AO != (wrap64 (2 + a0))) = false := bne_eq_false_iff_eq.mpr A4
    clear A4
    by_cases Ce : AH.length < 4398046511104
    rw [if_pos Ce] at H
    have Bg := Aside0.mk Ce
    clear Ce
    obtain ⟨Bh, AL⟩ : ∃ y_ : List (S42), y_ = (AH ++ [(⟨wrap64 ((wrap64 (Int.tdiv Aa 27)) - 1), wrap64 ((Int.tmod (wrap64 (Int.tdiv Aa 9)) 3) - 1), wrap64 ((Int.tmod (wrap64 (Int.tdiv Aa 3)) 3) - 1), wrap64 ((Int.tmod Aa 3) - 1)⟩ : S42)]) := ⟨_, rfl⟩
    replace H : (impl_pointMats.l0 k1 a0 Bh (wrap64 (Aa + 1))) = some r := by first | (rw [AL]; with_reducible exact H) | (have H2_ := (Option.bind_some _ _).symm.trans H; rw [AL]; with_reducible exact H2_) | (have H2_ := (Option.bind_some _ _).symm.trans H; with_reducible exact H2_) | with_reducible exact H | (rw [AL]; exact H) | exact H
    have Bi := Aside0.mk AL
    clear AL
    have H' := Aside0.mk H
    clear H
    rotate_left
    ·rw [if_neg Ce] at H
     exact absurd H (by simp)
    rw [if_neg A4] at H
    have Be : (AO == (wrap64 (2 + a0))) = false := beq_eq_false_iff_ne.mpr A4
    have Bf : (AO != (wrap64 (2 + a0))) = true := bne_iff_ne.mpr A4
    have H' := Aside0.mk H
    clear H
    rotate_left
    rw [if_neg A3] at H
    have Bc : (AN == 1) = false := beq_eq_false_iff_ne.mpr A3
    have Bd : (AN != 1) = true := bne_iff_ne.mpr A3
    have H' := Aside0.mk H
    clear H
    rotate_left
    rw [if_neg c9] at H
    have CL : (AM == 1) = false := beq_eq_false_iff_ne.mpr c9
    have CM : (AM != 1) = true := bne_iff_ne.mpr c9
    have H' := Aside0.mk H
    clear H
    rotate_left
    try go_wp2_with (first | ((with_reducible refine gate_callee (f := 68) rfl ?_); refine gl 39 Tryz.func68 #[.int .i64 a0, .agg #[.int .i64 AI, .int .i64 AJ]] ?_; (with_reducible refine (impl_norm.calls _ _ _ _ _ A8.out).mono ?_); rintro e Dg ⟨rfl, hb⟩; refine ⟨_, rfl, ?_⟩; replace Af := asd (Kd.R_below (kr Af) hb); replace Ab := bB Ab hb; replace Ai := bB Ai hb; replace Ag := bB Ag hb; replace Ah := bB Ah hb; replace HB := bS4 HB Aj Ax Ay Az hb; (try clear hb); have CV := Ao.out; have CW := Al.out; have CX := An.out; have CY := Am.out; obtain ⟨Cf, Cg, Ch, Ci⟩ := bz2 Ag) | (go_at_call 68; (with_reducible refine (impl_norm.calls _ _ _ _ _ CN.out).mono ?_); rintro e Dh ⟨rfl, hb⟩; replace Af := asd (Kd.R_below (kr Af) hb); replace Ab := bB Ab hb; replace Ai := bB Ai hb; replace Ag := bB Ag hb; replace Ah := bB Ah hb; replace HB := bS4 HB Aj Ax Ay Az hb; (try clear hb); have CZ := Ar.out; have C0 := Ap.out; obtain ⟨Cj, Ck, Cl, Cm⟩ := bz2 Ah) | (go_at_call 68; (with_reducible refine (impl_norm.calls _ _ _ _ _ CU.out).mono ?_); rintro e Di ⟨rfl, hb⟩; replace Af := asd (Kd.R_below (kr Af) hb); replace Ab := bB Ab hb; replace Ai := bB Ai hb; replace Ag := bB Ag hb; replace Ah := bB Ah hb; replace HB := bS4 HB Aj Ax Ay Az hb; (try clear hb); obtain ⟨Cn, Co, Cp, Cq, Cr, Cs, Ct, Cu⟩ := bz4 Ab) | ((with_reducible refine gate_builtin (b := .append) (xs := #[.tmp 55, .tmp 57]) rfl ?_); at_builtin; refine Kd.R_append k42 (w0 := w) w.heap.size rfl (.tmp 55) (.tmp 57) 108 42 (.agg #[(.int .i64 0), (.int .i64 0), (.int .i64 0), (.int .i64 0)]) 32 rfl Tryz.underlying108 info42 rfl (by decide) (by omega) u3 AH (⟨wrap64 ((wrap64 (Int.tdiv Aa 27)) - 1), wrap64 ((Int.tmod (wrap64 (Int.tdiv Aa 9)) 3) - 1), wrap64 ((Int.tmod (wrap64 (Int.tdiv Aa 3)) 3) - 1), wrap64 ((Int.tmod Aa 3) - 1)⟩ : S42) [.int .i64 (wrap64 ((wrap64 (Int.tdiv Aa 27)) - 1)), .int .i64 (wrap64 ((Int.tmod (wrap64 (Int.tdiv Aa 9)) 3) - 1)), .int .i64 (wrap64 ((Int.tmod (wrap64 (Int.tdiv Aa 3)) 3) - 1)), .int .i64 (wrap64 ((Int.tmod Aa 3) - 1))] (fun k_ => k_ ≠ Ak) (fun _ => False) rfl rfl ?aP (fun _ hk => hk.elim) ?aF ?aO ?aB ?aS ?aL ?_; (case aP => exact k42_mkM _ _ _ (⟨wrap64 ((wrap64 (Int.tdiv Aa 27)) - 1), wrap64 ((Int.tmod (wrap64 (Int.tdiv Aa 9)) 3) - 1), wrap64 ((Int.tmod (wrap64 (Int.tdiv Aa 3)) 3) - 1), wrap64 ((Int.tmod Aa 3) - 1)⟩ : S42)); (case aB => exact (bbw4 HB Aj Ax Ay Az)); (case aF => exact (fun k_ hk => Kd.freshB (g := Ak) (o := .cells #[.int .i64 (wrap64 ((wrap64 (Int.tdiv Aa 27)) - 1)), .int .i64 (wrap64 ((Int.tmod (wrap64 (Int.tdiv Aa 9)) 3) - 1)), .int .i64 (wrap64 ((Int.tmod (wrap64 (Int.tdiv Aa 3)) 3) - 1)), .int .i64 (wrap64 ((Int.tmod Aa 3) - 1))] 42 (0, 0)) (bkp Ab) k_ hk)); (case aO => exact (kr Af)); (case aS => exact (bsz4 HB Aj Ax Ay Az)); (case aL => have := Bg.out; omega); intro v496 Dj ho hb hg hat; rw [← Bi.out] at ho; have AE := asd (blk_grown (g := Ak) (o := .cells #[.int .i64 (wrap64 ((wrap64 (Int.tdiv Aa 27)) - 1)), .int .i64 (wrap64 ((Int.tmod (wrap64 (Int.tdiv Aa 9)) 3) - 1)), .int .i64 (wrap64 ((Int.tmod (wrap64 (Int.tdiv Aa 3)) 3) - 1)), .int .i64 (wrap64 ((Int.tmod Aa 3) - 1))] 42 (0, 0)) (bkp Ab) hg (Kd.R_away Af.out (fun _ hk => hk))); have AF := asd (blk_grown (g := Ac) (o := .cells #[.int .i64 AI, .int .i64 AJ] 44 (0, 0)) (bkp Ai) hg (Kd.R_ne Af.out Ai.out (by decide))); have AG := asd (blk_grown (g := Ad) (o := .cells #[.int .i64 AQ, .int .i64 AR] 44 (0, 0)) (bkp Ag) hg (Kd.R_ne Af.out Ag.out (by decide))); have AU := asd (blk_grown (g := Ae) (o := .cells #[.int .i64 AS, .int .i64 AT] 44 (0, 0)) (bkp Ah) hg (Kd.R_ne Af.out Ah.out (by decide))); have AV := asd (hb); have AW := asd (ho); clear Ab; clear Ai; clear Ag; clear Ah; clear HB; clear Af; have Ab := AE; have Ai := AF; have Ag := AG; have Ah := AU; have HB := AV; have Bj := AW; clear AE AF AG AU AV AW; clear ho hb hg hat))
    rotate_left
    try go_wp2_with (first | ((with_reducible refine gate_callee (f := 68) rfl ?_); refine gl 39 Tryz.func68 #[.int .i64 a0, .agg #[.int .i64 AI, .int .i64 AJ]] ?_; (with_reducible refine (impl_norm.calls _ _ _ _ _ A8.out).mono ?_); rintro e Dk ⟨rfl, hb⟩; refine ⟨_, rfl, ?_⟩; replace Af := asd (Kd.R_below (kr Af) hb); replace Ab := bB Ab hb; replace Ai := bB Ai hb; replace Ag := bB Ag hb; replace Ah := bB Ah hb; replace HB := bS4 HB Aj Ax Ay Az hb; (try clear hb); have C1 := Ao.out; have C2 := Al.out; have C3 := An.out; have C4 := Am.out; obtain ⟨Cv, Cw, Cx, Cy⟩ := bz2 Ag) | (go_at_call 68; (with_reducible refine (impl_norm.calls _ _ _ _ _ CN.out).mono ?_); rintro e Dl ⟨rfl, hb⟩; replace Af := asd (Kd.R_below (kr Af) hb); replace Ab := bB Ab hb; replace Ai := bB Ai hb; replace Ag := bB Ag hb; replace Ah := bB Ah hb; replace HB := bS4 HB Aj Ax Ay Az hb; (try clear hb); have C5 := Ar.out; have C6 := Ap.out; obtain ⟨Cz, CA, CB, CC⟩ := bz2 Ah) | (go_at_call 68; (with_reducible refine (impl_norm.calls _ _ _ _ _ CU.out).mono ?_); rintro e Dm ⟨rfl, hb⟩; replace Af := asd (Kd.R_below (kr Af) hb); replace Ab := bB Ab hb; replace Ai := bB Ai hb; replace Ag := bB Ag hb; replace Ah := bB Ah hb; replace HB := bS4 HB Aj Ax Ay Az hb; (try clear hb)))
    rotate_left
    try go_wp2_with (first | ((with_reducible refine gate_callee (f := 68) rfl ?_); refine gl 39 Tryz.func68 #[.int .i64 a0, .agg #[.int .i64 AI, .int .i64 AJ]] ?_; (with_reducible refine (impl_norm.calls _ _ _ _ _ A8.out).mono ?_); rintro e Dn ⟨rfl, hb⟩; refine ⟨_, rfl, ?_⟩; replace Af := asd (Kd.R_below (kr Af) hb); replace Ab := bB Ab hb; replace Ai := bB Ai hb; replace Ag := bB Ag hb; replace Ah := bB Ah hb; replace HB := bS4 HB Aj Ax Ay Az hb; (try clear hb); have C7 := Ao.out; have C8 := Al.out; have C9 := An.out; have Da := Am.out; obtain ⟨CD, CE, CF, CG⟩ := bz2 Ag) | (go_at_call 68; (with_reducible refine (impl_norm.calls _ _ _ _ _ CN.out).mono ?_); rintro e Dc ⟨rfl, hb⟩; replace Af := asd (Kd.R_below (kr Af) hb); replace Ab := bB Ab hb; replace Ai := bB Ai hb; replace Ag := bB Ag hb; replace Ah := bB Ah hb; replace HB := bS4 HB Aj Ax Ay Az hb; (try clear hb)))
    rotate_left
    try go_wp2_with (first | ((with_reducible refine gate_callee (f := 68) rfl ?_); refine gl 39 Tryz.func68 #[.int .i64 a0, .agg #[.int .i64 AI, .int .i64 AJ]] ?_; (with_reducible refine (impl_norm.calls _ _ _ _ _ A8.out).mono ?_); rintro e Dd ⟨rfl, hb⟩; refine ⟨_, rfl, ?_⟩; replace Af := asd (Kd.R_below (kr Af) hb); replace Ab := bB Ab hb; replace Ai := bB Ai hb; replace Ag := bB Ag hb; replace Ah := bB Ah hb; replace HB := bS4 HB Aj Ax Ay Az hb; (try clear hb)))
    rotate_left
    all_goals
     go_roundg k1
     case measure => have := CH.out; omega
    ·case rel => exact ⟨(Bh), (wrap64 (Aa + 1)), (by first | rfl | (simp; done) | (simp [*]; done)), H', ⟨by have := CH.out; omega⟩, ⟨by (with_reducible repeat (first | apply Kd.R_alloc | apply Kd.R_drewN | apply Kd.R_drew)); exact Kd.R_mono Bj.out (fun _ hk => trivial)⟩, ⟨bbw4 HB Aj Ax Ay Az⟩⟩
    rotate_left 3
    all_goals
     case rel => exact ⟨(AH), (wrap64 (Aa + 1)), (by first | rfl | (simp; done) | (simp [*]; done)), H', ⟨by have := CH.out; omega⟩, ⟨by (with_reducible repeat (first | apply Kd.R_alloc | apply Kd.R_drewN | apply Kd.R_drew)); exact Kd.R_mono Af.out (fun _ hk => trivial)⟩, ⟨bbw4 HB Aj Ax Ay Az⟩⟩
   ·rw [if_neg c4] at H
    have CI := decide_eq_false c4
    clear c4
    obtain rfl := Option.some.inj H
    go_wp2
    go_ret
    exact ⟨_, by first | rfl | (simp [errW_none, errW_some] <;> rfl) | (simp [*, errW_none, errW_some] <;> rfl), by (with_reducible repeat (first | apply Kd.R_alloc | apply Kd.R_drewN | apply Kd.R_drew)); exact Af.out, bbw0 HB⟩
attribute [local go_sem high] eqA42
def impl_latticeMats.app (m : S42) (x y : Int) : Int × Int := (impl_Mat_apply.f m.f0 m.f1 m.f2 m.f3 x y).getD (0, 0)
def impl_latticeMats.hasB (a b c : Int) (t : Int × Int) : Bool := (impl_Lattice_has.f a b c t.1 t.2).getD false
def impl_latticeMats.keep (a b c : Int) (m : S42) : Bool := impl_latticeMats.hasB a b c (impl_latticeMats.app m a 0) && impl_latticeMats.hasB a b c (impl_latticeMats.app m b c)
theorem impl_latticeMats.app_eq (m : S42) (x y : Int) : impl_Mat_apply.f m.f0 m.f1 m.f2 m.f3 x y = some ((impl_latticeMats.app m x y).1, (impl_latticeMats.app m x y).2) := rfl
theorem impl_latticeMats.has_eq (a b c : Int) (ha : a ≠ 0) (hc : c ≠ 0) (t : Int × Int) : impl_Lattice_has.f a b c t.1 t.2 = some (impl_latticeMats.hasB a b c t) := by
 have : (impl_Lattice_has.f a b c t.1 t.2).isSome = true := by
  simp [impl_Lattice_has.f, impl_Lattice_reduce.f, impl_mod.f, ha, hc]
 obtain ⟨r, hr⟩ := Option.isSome_iff_exists.1 this
 unfold impl_latticeMats.hasB
 rw [hr]; rfl
def impl_latticeMats.f (k : Nat) (a0 : Int) (Aa : Int) (Ac : Int) (Ab : Int) : Option (List S42) := if Aa = 0 then none else (if Ab = 0 then none else ((impl_pointMats.f k a0).bind fun l => some (l.filter (impl_latticeMats.keep Aa Ac Ab))))
abbrev impl_latticeMats.Held (W : World) (a b c : Int) (L U V B : Nat) (x : S42) (w' : World) : Prop := Below W.heap.size W w' ∧ w'.cell? ⟨L, 0, none⟩ = some (.int .i64 a) ∧ w'.cell? ⟨L, 1, none⟩ = some (.int .i64 b) ∧ w'.cell? ⟨L, 2, none⟩ = some (.int .i64 c) ∧ w'.cell? ⟨U, 0, none⟩ = some (.int .i64 a) ∧ w'.cell? ⟨U, 1, none⟩ = some (.int .i64 0) ∧ w'.cell? ⟨V, 0, none⟩ = some (.int .i64 b) ∧ w'.cell? ⟨V, 1, none⟩ = some (.int .i64 c) ∧ w'.cell? ⟨B, 0, none⟩ = some (.int .i64 x.f0) ∧ w'.cell? ⟨B, 1, none⟩ = some (.int .i64 x.f1) ∧ w'.cell? ⟨B, 2, none⟩ = some (.int .i64 x.f2) ∧ w'.cell? ⟨B, 3, none⟩ = some (.int .i64 x.f3)
theorem impl_latticeMats.held_below {W : World} {a b c : Int} {L U V B : Nat} {x : S42} {w w' : World} (h : impl_latticeMats.Held W a b c L U V B x w) (hb : Below w.heap.size w w') : impl_latticeMats.Held W a b c L U V B x w' := by
 obtain ⟨h0, s0, s1, s2, s3, s4, s5, s6, s7, s8, s9, s10⟩ := h
 exact ⟨below_then h0 h0.size hb, (hb.cell (World.block_lt_of_cell? w _ s0)).trans s0, (hb.cell (World.block_lt_of_cell? w _ s1)).trans s1, (hb.cell (World.block_lt_of_cell? w _ s2)).trans s2, (hb.cell (World.block_lt_of_cell? w _ s3)).trans s3, (hb.cell (World.block_lt_of_cell? w _ s4)).trans s4, (hb.cell (World.block_lt_of_cell? w _ s5)).trans s5, (hb.cell (World.block_lt_of_cell? w _ s6)).trans s6, (hb.cell (World.block_lt_of_cell? w _ s7)).trans s7, (hb.cell (World.block_lt_of_cell? w _ s8)).trans s8, (hb.cell (World.block_lt_of_cell? w _ s9)).trans s9, (hb.cell (World.block_lt_of_cell? w _ s10)).trans s10⟩
theorem impl_latticeMats.held_drew {W : World} {a b c : Int} {L U V B : Nat} {x : S42} {w : World} (h : impl_latticeMats.Held W a b c L U V B x w) : impl_latticeMats.Held W a b c L U V B x w.drew := ⟨below_drew1 h.1, h.2⟩
set_option maxHeartbeats 40000000 in
theorem impl_latticeMats.pred (a b c : Int) (L U V : Nat) (W : World) (hl0 : W.cell? ⟨L, 0, none⟩ = some (.int .i64 a)) (hl1 : W.cell? ⟨L, 1, none⟩ = some (.int .i64 b)) (hl2 : W.cell? ⟨L, 2, none⟩ = some (.int .i64 c)) (hu0 : W.cell? ⟨U, 0, none⟩ = some (.int .i64 a)) (hu1 : W.cell? ⟨U, 1, none⟩ = some (.int .i64 0)) (hv0 : W.cell? ⟨V, 0, none⟩ = some (.int .i64 b)) (hv1 : W.cell? ⟨V, 1, none⟩ = some (.int .i64 c)) (ha : a ≠ 0) (hc : c ≠ 0) (x : S42) :
  Calls Tryz.prog 110 (#[.agg #[.int .i64 x.f0, .int .i64 x.f1, .int .i64 x.f2, .int .i64 x.f3]] ++ #[.pointer (some ⟨L, 0, none⟩), .pointer (some ⟨U, 0, none⟩), .pointer (some ⟨V, 0, none⟩)]) W fun e w' => e = .returned (.bool (!(impl_latticeMats.keep a b c x))) ∧ Below W.heap.size W w' := by
 show Calls Tryz.prog 110 #[.agg #[.int .i64 x.f0, .int .i64 x.f1, .int .i64 x.f2, .int .i64 x.f3], .pointer (some ⟨L, 0, none⟩), .pointer (some ⟨U, 0, none⟩), .pointer (some ⟨V, 0, none⟩)] W _
 have hu33 := Tryz.underlying42
 have hu34 := Tryz.underlying44
 have hu31 := Tryz.underlying30
 have A1 := asd (impl_latticeMats.app_eq x a 0)
 have A2 := asd (impl_latticeMats.has_eq a b c ha hc (impl_latticeMats.app x a 0))
 have A3 := asd (impl_latticeMats.app_eq x b c)
 have A4 := asd (impl_latticeMats.has_eq a b c ha hc (impl_latticeMats.app x b c))
 unfold impl_latticeMats.keep
 generalize impl_latticeMats.app x a 0 = p1 at A1 A2 ⊢
 generalize impl_latticeMats.app x b c = p2 at A3 A4 ⊢
 generalize impl_latticeMats.hasB a b c p1 = r1 at A2 ⊢
 generalize impl_latticeMats.hasB a b c p2 = r2 at A4 ⊢
 have hb0 := below_alloc (Below.refl W.heap.size W) (.cells #[.int .i64 x.f0, .int .i64 x.f1, .int .i64 x.f2, .int .i64 x.f3] 42)
 have hS0 : impl_latticeMats.Held W a b c L U V W.heap.size x (W.alloc (.cells #[.int .i64 x.f0, .int .i64 x.f1, .int .i64 x.f2, .int .i64 x.f3] 42)) :=
  ⟨hb0, (hb0.cell (World.block_lt_of_cell? W _ hl0)).trans hl0, (hb0.cell (World.block_lt_of_cell? W _ hl1)).trans hl1, (hb0.cell (World.block_lt_of_cell? W _ hl2)).trans hl2, (hb0.cell (World.block_lt_of_cell? W _ hu0)).trans hu0, (hb0.cell (World.block_lt_of_cell? W _ hu1)).trans hu1, (hb0.cell (World.block_lt_of_cell? W _ hv0)).trans hv0, (hb0.cell (World.block_lt_of_cell? W _ hv1)).trans hv1, by simp, by simp, by simp, by simp⟩
 have C1 := asd (fun (w' : World) (h : impl_latticeMats.Held W a b c L U V W.heap.size x w') => (impl_Mat_apply.calls _ _ _ _ _ _ _ _ _ A1.out).mono (fun e w'' (he : _ ∧ _) => (⟨he.1, impl_latticeMats.held_below h he.2⟩ : _ ∧ impl_latticeMats.Held W a b c L U V W.heap.size x w'')))
 have C2 := asd (fun (w' : World) (h : impl_latticeMats.Held W a b c L U V W.heap.size x w') => (impl_Lattice_has.calls _ _ _ _ _ _ _ A2.out).mono (fun e w'' (he : _ ∧ _) => (⟨he.1, impl_latticeMats.held_below h he.2⟩ : _ ∧ impl_latticeMats.Held W a b c L U V W.heap.size x w'')))
 have C3 := asd (fun (w' : World) (h : impl_latticeMats.Held W a b c L U V W.heap.size x w') => (impl_Mat_apply.calls _ _ _ _ _ _ _ _ _ A3.out).mono (fun e w'' (he : _ ∧ _) => (⟨he.1, impl_latticeMats.held_below h he.2⟩ : _ ∧ impl_latticeMats.Held W a b c L U V W.heap.size x w'')))
 have C4 := asd (fun (w' : World) (h : impl_latticeMats.Held W a b c L U V W.heap.size x w') => (impl_Lattice_has.calls _ _ _ _ _ _ _ A4.out).mono (fun e w'' (he : _ ∧ _) => (⟨he.1, impl_latticeMats.held_below h he.2⟩ : _ ∧ impl_latticeMats.Held W a b c L U V W.heap.size x w'')))
 clear hl0 hl1 hl2 hu0 hu1 hv0 hv1 ha hc hb0
 have hS1 := hS0
 obtain ⟨sb, s0, s1, s2, s3, s4, s5, s6, s7, s8, s9, s10⟩ := hS0
 cases r1 with
 | false =>
  go_enter Tryz.func110, Tryz.ntmps110
  go_wp2
  refine wp_region_held_drew (S := (fun w' => Below W.heap.size W w' ∧ w'.cell? ⟨L, 0, none⟩ = some (.int .i64 a) ∧ w'.cell? ⟨L, 1, none⟩ = some (.int .i64 b) ∧ w'.cell? ⟨L, 2, none⟩ = some (.int .i64 c) ∧ w'.cell? ⟨U, 0, none⟩ = some (.int .i64 a) ∧ w'.cell? ⟨U, 1, none⟩ = some (.int .i64 0) ∧ w'.cell? ⟨V, 0, none⟩ = some (.int .i64 b) ∧ w'.cell? ⟨V, 1, none⟩ = some (.int .i64 c) ∧ w'.cell? ⟨W.heap.size, 0, none⟩ = some (.int .i64 x.f0) ∧ w'.cell? ⟨W.heap.size, 1, none⟩ = some (.int .i64 x.f1) ∧ w'.cell? ⟨W.heap.size, 2, none⟩ = some (.int .i64 x.f2) ∧ w'.cell? ⟨W.heap.size, 3, none⟩ = some (.int .i64 x.f3))) (by kernel_rfl) (impl_latticeMats.held_drew hS1) (fun hHeld => ?_)
  refine wpAnyH_take (i := 0) (v := ?_) rfl (by kernel_rfl) (by kernel_rfl) (by kernel_rfl) (fun _ _ _ h => h) (Or.inl ⟨by rfl, ?_⟩) (by assumption) ?_
  rotate_left
  ·intro w' hSw; (try dsimp only at hSw); go_simp; first | done | with_reducible rfl
  rotate_left
  try simp only [Act.put, sA, sB, sC]
  refine wpAnyH_take (i := 1) (v := ?_) rfl (by kernel_rfl) (by kernel_rfl) (by kernel_rfl) (fun _ _ _ h => h) (Or.inl ⟨by rfl, ?_⟩) (by assumption) ?_
  rotate_left
  ·intro w' hSw; (try dsimp only at hSw); go_simp; first | done | with_reducible rfl
  rotate_left
  try simp only [Act.put, sA, sB, sC]
  refine wpAnyH_take (i := 2) (v := ?_) rfl (by kernel_rfl) (by kernel_rfl) (by kernel_rfl) (fun _ _ _ h => h) (Or.inl ⟨by rfl, ?_⟩) (by assumption) ?_
  rotate_left
  ·intro w' hSw; (try dsimp only at hSw); go_simp; first | done | with_reducible rfl
  rotate_left
  try simp only [Act.put, sA, sB, sC]
  refine wpAnyH_ready (rs := [3]) (by kernel_rfl) (by simp) ?_
  refine AllReadyH.cons rfl (fun K hK => ?_) AllReadyH.nil
  go_simp
  go_at_call 99
  (with_reducible refine (C1.out _ ?_).mono ?_)
  (assumption)
  rintro e w' ⟨rfl, hS'⟩
  refine hK.out _ _ (hS') (fun hHeld => ?_)
  clear hK K
  try simp only [Act.put, sA, sB, sC]
  refine wpAnyH_ready (rs := [4]) (by kernel_rfl) (by simp) ?_
  refine AllReadyH.cons rfl (fun K hK => ?_) AllReadyH.nil
  go_simp
  go_at_call 64
  (with_reducible refine (C2.out _ ?_).mono ?_)
  (assumption)
  rintro e w' ⟨rfl, hS'⟩
  refine hK.out _ _ (hS') (fun hHeld => ?_)
  clear hK K
  try simp only [Act.put, sA, sB, sC]
  refine wpAnyH_take (i := 5) (oi := { dst := some 11, op := _, type := _, pos := _, after := _, guard := _ }) (v := ?_) rfl (by kernel_rfl) (by kernel_rfl) (by kernel_rfl) (fun _ _ _ h => h) (Or.inl ⟨by rfl, ?_⟩) (by assumption) ?_
  rotate_left
  ·intro w' hSw; (try dsimp only at hSw); go_simp; first | done | with_reducible rfl
  rotate_left
  try simp only [Act.put, sA, sB, sC]
  refine wpAnyH_take (i := 6) (oi := { dst := some 12, op := _, type := _, pos := _, after := _, guard := _ }) (v := ?_) rfl (by kernel_rfl) (by kernel_rfl) (by kernel_rfl) (fun _ _ _ h => h) (Or.inl ⟨by rfl, ?_⟩) (by assumption) ?_
  rotate_left
  ·intro w' hSw; (try dsimp only at hSw); go_simp; first | done | with_reducible rfl
  rotate_left
  try simp only [Act.put, sA, sB, sC]
  refine wpAnyH_take (i := 7) (oi := { dst := some 13, op := _, type := _, pos := _, after := _, guard := _ }) (v := _) rfl (by kernel_rfl) (by kernel_rfl) (by kernel_rfl) (fun _ _ _ h => h) (Or.inr ⟨by rfl, rfl⟩) (by assumption) ?_
  try simp only [Act.put, sA, sB, sC]
  refine wpAnyH_take (i := 8) (oi := { dst := some 14, op := _, type := _, pos := _, after := _, guard := _ }) (v := _) rfl (by kernel_rfl) (by kernel_rfl) (by kernel_rfl) (fun _ _ _ h => h) (Or.inr ⟨by rfl, rfl⟩) (by assumption) ?_
  try simp only [Act.put, sA, sB, sC]
  refine wpAnyH_take (i := 9) (oi := { dst := some 15, op := _, type := _, pos := _, after := _, guard := _ }) (v := _) rfl (by kernel_rfl) (by kernel_rfl) (by kernel_rfl) (fun _ _ _ h => h) (Or.inr ⟨by rfl, rfl⟩) (by assumption) ?_
  try simp only [Act.put, sA, sB, sC]
  refine wpAnyH_take (i := 10) (oi := { dst := some 16, op := _, type := _, pos := _, after := _, guard := _ }) (v := _) rfl (by kernel_rfl) (by kernel_rfl) (by kernel_rfl) (fun _ _ _ h => h) (Or.inr ⟨by rfl, rfl⟩) (by assumption) ?_
  try simp only [Act.put, sA, sB, sC]
  refine wpAnyH_take (i := 11) (oi := { dst := some 17, op := _, type := _, pos := _, after := _, guard := _ }) (v := _) rfl (by kernel_rfl) (by kernel_rfl) (by kernel_rfl) (fun _ _ _ h => h) (Or.inr ⟨by rfl, rfl⟩) (by assumption) ?_
  try simp only [Act.put, sA, sB, sC]
  refine wpAnyH_take (i := 12) (oi := { dst := some 18, op := Op.unOp UnOp.not _ (Operand.tmp 17), type := _, pos := _, after := _, guard := _ }) (v := _) rfl (by kernel_rfl) (by kernel_rfl) (by kernel_rfl) (fun _ _ _ h => h) (Or.inr ⟨by rfl, rfl⟩) (by assumption) ?_
  try simp only [Act.put, sA, sB, sC]
  refine wpAnyH_take (i := 13) (oi := { dst := some 19, op := Op.pick (Operand.tmp 12) (Operand.const (Value.bool true)) (Operand.tmp 18), type := _, pos := _, after := _, guard := _ }) (v := ?_) rfl (by kernel_rfl) (by kernel_rfl) (by kernel_rfl) (fun _ _ _ h => h) (Or.inl ⟨by rfl, ?_⟩) (by assumption) ?_
  rotate_left
  ·intro w' hSw; (try dsimp only at hSw); go_simp; first | done | with_reducible rfl
  rotate_left
  try simp only [Act.put, sA, sB, sC]
  refine wpAnyH_take (i := 14) (oi := { dst := some 5, op := Op.assign (Operand.tmp 19), type := _, pos := _, after := _, guard := _ }) (v := ?_) rfl (by kernel_rfl) (by kernel_rfl) (by kernel_rfl) (fun _ _ _ h => h) (Or.inl ⟨by rfl, ?_⟩) (by assumption) ?_
  rotate_left
  ·intro w' hSw; (try dsimp only at hSw); go_simp; first | done | with_reducible rfl
  rotate_left
  try simp only [Act.put, sA, sB, sC]
  refine wpAnyH_done (by kernel_rfl) ?_ _
  all_goals go_wp2
  all_goals go_ret
  all_goals exact ⟨by first | rfl | (cases r2 <;> rfl), (show impl_latticeMats.Held W a b c L U V W.heap.size x _ by assumption).1⟩
 | true =>
  go_enter Tryz.func110, Tryz.ntmps110
  go_wp2
  first | (go_region_held3 (fun w' => Below W.heap.size W w' ∧ w'.cell? ⟨L, 0, none⟩ = some (.int .i64 a) ∧ w'.cell? ⟨L, 1, none⟩ = some (.int .i64 b) ∧ w'.cell? ⟨L, 2, none⟩ = some (.int .i64 c) ∧ w'.cell? ⟨U, 0, none⟩ = some (.int .i64 a) ∧ w'.cell? ⟨U, 1, none⟩ = some (.int .i64 0) ∧ w'.cell? ⟨V, 0, none⟩ = some (.int .i64 b) ∧ w'.cell? ⟨V, 1, none⟩ = some (.int .i64 c) ∧ w'.cell? ⟨W.heap.size, 0, none⟩ = some (.int .i64 x.f0) ∧ w'.cell? ⟨W.heap.size, 1, none⟩ = some (.int .i64 x.f1) ∧ w'.cell? ⟨W.heap.size, 2, none⟩ = some (.int .i64 x.f2) ∧ w'.cell? ⟨W.heap.size, 3, none⟩ = some (.int .i64 x.f3)) (first | assumption | exact impl_latticeMats.held_drew hS1 | go_keep)
   (first | (go_at_call 99; (with_reducible refine (C1.out _ ?_).mono ?_); (assumption); rintro e w' ⟨rfl, hS'⟩) | (go_at_call 64; (with_reducible refine (C2.out _ ?_).mono ?_); (assumption); rintro e w' ⟨rfl, hS'⟩) | (go_at_call 99; (with_reducible refine (C3.out _ ?_).mono ?_); (assumption); rintro e w' ⟨rfl, hS'⟩) | (go_at_call 64; (with_reducible refine (C4.out _ ?_).mono ?_); (assumption); rintro e w' ⟨rfl, hS'⟩))) | (fail "held3")
  all_goals go_wp2
  all_goals go_ret
  all_goals exact ⟨by first | rfl | (cases r2 <;> rfl), (show impl_latticeMats.Held W a b c L U V W.heap.size x _ by assumption).1⟩
set_option maxHeartbeats 4000000 in
theorem impl_latticeMats.calls (k : Nat) (a0 : Int) (Aa : Int) (Ac : Int) (Ab : Int) (r : List S42) (w : World) (h : impl_latticeMats.f k a0 Aa Ac Ab = some r) :
  Calls Tryz.prog 90 #[.int .i64 a0, .agg #[.int .i64 Aa, .int .i64 Ac, .int .i64 Ab]] w fun e w' => ∃ v0_ : Value, e = .returned (v0_) ∧ Kd.R k42 42 w' w.heap.size (fun _ => True) v0_ r ∧ Below w.heap.size w w' := by
 have hu34 := Tryz.underlying44
 have hu31 := Tryz.underlying30
 unfold impl_latticeMats.f at h
 by_cases ha : Aa = 0
 ·rw [if_pos ha] at h; cases h
 rw [if_neg ha] at h
 by_cases hc : Ab = 0
 ·rw [if_pos hc] at h; cases h
 rw [if_neg hc] at h
 obtain ⟨l, h1, h2⟩ := Option.bind_eq_some_iff.1 h
 have hr := Option.some.inj h2
 subst hr
 have A1 := Aside0.mk h1
 have HA := Aside0.mk ha
 have HC := Aside0.mk hc
 have ABS := asd (show impl_Lattice_basis.f Aa Ac Ab = some (Aa, 0, Ac, Ab) from rfl)
 clear h h1 h2 ha hc
 have eg : ∀ args w, (callFunc 110 args).run Tryz.prog w = .ok (.enter 110 args) w := enters_of Tryz.func110 (by kernel_rfl) rfl
 have EG := Aside0.mk eg
 clear eg
 go_enter Tryz.func90, Tryz.ntmps90
 go_wp2_with (first | (go_at_call 71; (with_reducible refine (impl_Lattice_basis.calls _ _ _ _ _ _ _ _ ABS.out).mono ?_); rintro e w2 ⟨rfl, hb2⟩; have HB2 := asd (below_then (below_alloc (Below.refl w.heap.size w) _) (below_alloc (Below.refl w.heap.size w) _).size hb2); have HL := Aside0.mk hb2; clear hb2) | (go_at_call 109; (with_reducible refine (impl_pointMats.calls _ _ _ _ A1.out).mono ?_); rintro e w3 ⟨v0, rfl, hR, hb3⟩; have HR3 := Aside0.mk hR; have HB3 := Aside0.mk hb3; clear hR hb3))
 obtain ⟨wA, hwA⟩ : ∃ wA, wA = (w2.alloc (.cells #[.int .i64 Aa, .int .i64 0] 44)).alloc (.cells #[.int .i64 Ac, .int .i64 Ab] 44) := ⟨_, rfl⟩
 have hAB : Below w2.heap.size w2 wA := by rw [hwA]; exact below_alloc (below_alloc (Below.refl _ _) _) _
 have hl : ∀ o v, (w.alloc (.cells #[.int .i64 Aa, .int .i64 Ac, .int .i64 Ab] 30)).cell? ⟨w.heap.size, o, none⟩ = some v → wA.cell? ⟨w.heap.size, o, none⟩ = some v := fun o v hv => by
  have h1 : w2.cell? ⟨w.heap.size, o, none⟩ = some v := (HL.out.cell (p := ⟨w.heap.size, o, none⟩) (by simp)).trans hv
  exact (hAB.cell (World.block_lt_of_cell? w2 _ h1)).trans h1
 have hl0 := hl 0 (.int .i64 Aa) (by simp)
 have hl1 := hl 1 (.int .i64 Ac) (by simp)
 have hl2 := hl 2 (.int .i64 Ab) (by simp)
 have hu0 : wA.cell? ⟨w2.heap.size, 0, none⟩ = some (.int .i64 Aa) := by rw [hwA]; simp
 have hu1 : wA.cell? ⟨w2.heap.size, 1, none⟩ = some (.int .i64 0) := by rw [hwA]; simp
 have hv0 : wA.cell? ⟨w2.heap.size + 1, 0, none⟩ = some (.int .i64 Ac) := by rw [hwA]; simp
 have hv1 : wA.cell? ⟨w2.heap.size + 1, 1, none⟩ = some (.int .i64 Ab) := by rw [hwA]; simp
 have hBA : Below w.heap.size w wA := below_then HB2.out HB2.out.size hAB
 have HR4 := HR3.out
 have HB4 := HB3.out
 rw [← hwA] at HR4 HB4
 have up : ∀ (W : World) (p : Addr) (v : Value), Below wA.heap.size wA W → wA.cell? p = some v → W.cell? p = some v := fun W p v hb h => (hb.cell (World.block_lt_of_cell? wA _ h)).trans h
 refine (impl_Mat_108.calls (fun x => !(impl_latticeMats.keep Aa Ac Ab x)) 110 #[.pointer (some ⟨w.heap.size, 0, none⟩), .pointer (some ⟨w2.heap.size, 0, none⟩), .pointer (some ⟨w2.heap.size + 1, 0, none⟩)] EG.out (fun k_ => wA.heap.size ≤ k_) v0 l wA w3 HB4 (Kd.R_mono (Kd.R_bound HR4) (fun k_ hk => hk.2.1)) (fun x W hb _ => impl_latticeMats.pred Aa Ac Ab w.heap.size w2.heap.size (w2.heap.size + 1) W (up W _ _ hb hl0) (up W _ _ hb hl1) (up W _ _ hb hl2) (up W _ _ hb hu0) (up W _ _ hb hu1) (up W _ _ hb hv0) (up W _ _ hb hv1) HA.out HC.out x)).mono ?_
 rintro e w4 ⟨v', rfl, hR4, hb4, _⟩
 have HR5 := Aside0.mk hR4
 have HB5 := Aside0.mk hb4
 have HBA := Aside0.mk hBA
 clear hl hl0 hl1 hl2 hu0 hu1 hv0 hv1 hAB hBA HR4 HB4 up hR4 hb4 hwA
 go_wp2
 go_ret
 refine ⟨_, rfl, ?_, below_then HBA.out HBA.out.size HB5.out⟩
 have hf : (l.filter fun x => !(!(impl_latticeMats.keep Aa Ac Ab x))) = l.filter (impl_latticeMats.keep Aa Ac Ab) := by congr 1; funext x; simp
 have := HR5.out
 rw [hf] at this
 exact Kd.R_mono (Kd.R_lower this HBA.out.size) (fun _ _ => trivial)
def impl_Mat_111.l0 : Nat → List (S42) → Int → Int → Int → Int → Int → Int → Option (Int)
 | 0, _, _, _, _, _, _, _ => none
 | k + 1, x0, x7, x8, Ah, Ai, Aj, Ak => if x8 < x7 then (if 0 ≤ x8 then (if x8 < (x0.length : Int) then (if (Ah == ((rd_T42 x0 x8).f0) && (Ai == ((rd_T42 x0 x8).f1) && (Aj == ((rd_T42 x0 x8).f2) && (Ak == ((rd_T42 x0 x8).f3))))) = true then (some x8) else (impl_Mat_111.l0 k x0 x7 (wrap64 (x8 + 1)) Ah Ai Aj Ak)) else (none)) else (none)) else (some (-1))
def impl_Mat_111.f (k : Nat) (l0 : List (S42)) (Ab : Int) (Ac : Int) (Ad : Int) (Ae : Int) : Option (Int) := impl_Mat_111.l0 k l0 (l0.length : Int) 0 Ab Ac Ad Ae
theorem impl_Mat_111.calls (k : Nat) (A0 : Option Addr) (c0 : Nat) (l0 : List (S42)) (Ab : Int) (Ac : Int) (Ad : Int) (Ae : Int) (r : Int) (w : World) (hr0 : Kd.C k42 w A0 l0.length l0) (hc0 : l0.length ≤ c0) (h : impl_Mat_111.f k l0 Ab Ac Ad Ae = some r) :
  Calls Tryz.prog 111 #[.slice A0 l0.length c0, .agg #[.int .i64 Ab, .int .i64 Ac, .int .i64 Ad, .int .i64 Ae]] w fun e w' => e = .returned (.int .i64 r) ∧ Below w.heap.size w w' := by
 have hu42 := Tryz.underlying42
 have HR0 := Aside0.mk hr0
 have AG := Aside0.mk hc0
 clear hr0 hc0
 have HB := asd (Below.refl w.heap.size w)
 have H : (impl_Mat_111.l0 k l0 (l0.length : Int) 0 Ab Ac Ad Ae) = some r := h
 clear h
 have H' := Aside0.mk H
 clear H
 go_enter Tryz.func111, Tryz.ntmps111
 go_wp2_with (first | ((with_reducible refine gd 3 rfl ?_); refine bx #[.int .i64 Ab, .int .i64 Ac, .int .i64 Ad, .int .i64 Ae] 42 ?_; intro Al hg w3 Af hb; have Ag := ngw0 hg HB; replace HB := bS0 HB hb; clear hb hg))
 repeat (go_quiet (first | ((with_reducible refine gd 3 rfl ?_); refine bx #[.int .i64 Ab, .int .i64 Ac, .int .i64 Ad, .int .i64 Ae] 42 ?_; intro Al hg w3 Af hb; have Ag := ngw0 hg HB; replace HB := bS0 HB hb; clear hb hg)); try go_wp2_with (first | ((with_reducible refine gd 3 rfl ?_); refine bx #[.int .i64 Ab, .int .i64 Ac, .int .i64 Ad, .int .i64 Ae] 42 ?_; intro Al hg w3 Af hb; have Ag := ngw0 hg HB; replace HB := bS0 HB hb; clear hb hg)))
 go_loopg [8] k (fun kq v8 w' => ∃ (Aa : Int), v8 = .int .i64 Aa ∧ Aside0 (impl_Mat_111.l0 kq l0 (l0.length : Int) Aa Ab Ac Ad Ae = some r) ∧ Aside0 (kq ≤ k) ∧ Aside0 (w'.heap[Al]? = some (.cells #[.int .i64 Ab, .int .i64 Ac, .int .i64 Ad, .int .i64 Ae] 42 (0, 0))) ∧ Aside0 (Below w.heap.size w w'))
 case atStart => exact ⟨(0), (by first | rfl | (simp; done) | (simp [*]; done)), H', ⟨Nat.le_refl _⟩, ⟨bkp Af⟩, ⟨bbw1 HB Ag⟩⟩
 case round =>
  clear H'
  obtain ⟨Aa, rfl, HA, AC, Af, HB⟩ := hrel
  cases gk with
  | zero => exact absurd HA.out (by simp [impl_Mat_111.l0])
  | succ k1 =>
   have H := HA.out
   clear HA
   simp only [impl_Mat_111.l0] at H
   by_cases c4 : Aa < (l0.length : Int)
   rw [if_pos c4] at H
   have Aq := decide_eq_true c4
   clear c4
   by_cases c5 : 0 ≤ Aa
   rw [if_pos c5] at H
   have AD := decide_eq_true c5
   clear c5
   by_cases c6 : Aa < (l0.length : Int)
   rw [if_pos c6] at H
   have AE := decide_eq_true c6
   clear c6
   by_cases c7 : (Ab == ((rd_T42 l0 Aa).f0) && (Ac == ((rd_T42 l0 Aa).f1) && (Ad == ((rd_T42 l0 Aa).f2) && (Ae == ((rd_T42 l0 Aa).f3))))) = true
   rw [if_pos c7] at H
   have Ar := c7
   (try (have As : decide (Ab = ((rd_T42 l0 Aa).f0) && (Ac == ((rd_T42 l0 Aa).f1) && (Ad == ((rd_T42 l0 Aa).f2) && (Ae == ((rd_T42 l0 Aa).f3))))) = true := by simpa using c7))
   (try (have At : (Ab == ((rd_T42 l0 Aa).f0) && (Ac == ((rd_T42 l0 Aa).f1) && (Ad == ((rd_T42 l0 Aa).f2) && (Ae == ((rd_T42 l0 Aa).f3))))) = true := by simpa using c7))
   clear c7
   obtain rfl := Option.some.inj H
   rotate_left
   rw [if_neg c7] at H
   have Ar : (Ab == ((rd_T42 l0 Aa).f0) && (Ac == ((rd_T42 l0 Aa).f1) && (Ad == ((rd_T42 l0 Aa).f2) && (Ae == ((rd_T42 l0 Aa).f3))))) = false := by simpa using c7
   (try (have As : decide (Ab = ((rd_T42 l0 Aa).f0) && (Ac == ((rd_T42 l0 Aa).f1) && (Ad == ((rd_T42 l0 Aa).f2) && (Ae == ((rd_T42 l0 Aa).f3))))) = false := by simpa using c7))
   (try (have At : (Ab == ((rd_T42 l0 Aa).f0) && (Ac == ((rd_T42 l0 Aa).f1) && (Ad == ((rd_T42 l0 Aa).f2) && (Ae == ((rd_T42 l0 Aa).f3))))) = false := by simpa using c7))
   (try (have AF : ¬ (Ab = ((rd_T42 l0 Aa).f0) && (Ac == ((rd_T42 l0 Aa).f1) && (Ad == ((rd_T42 l0 Aa).f2) && (Ae == ((rd_T42 l0 Aa).f3))))) := by simpa using c7))
   clear c7
   have H' := Aside0.mk H
   clear H
   rotate_left
   ·rw [if_neg c6] at H
    exact absurd H (by simp)
   ·rw [if_neg c5] at H
    exact absurd H (by simp)
   rw [if_neg c4] at H
   have Aq := decide_eq_false c4
   clear c4
   obtain rfl := Option.some.inj H
   rotate_left
   rotate_left 2
   ·go_wp2
    repeat (go_quiet (fail); try go_wp2)
    go_ret
    exact er (bbw1 HB Ag)
   all_goals
    obtain ⟨Au, Av, Aw, Ax, Ay, Az, AA, AB⟩ := bz4 Af
    obtain ⟨p499, q499, ad499, e499, Am, An, Ao, Ap⟩ := at_T42x HR0.out HB Aa
    cases e499
    go_wp2
    repeat (go_quiet (fail); try go_wp2)
   ·go_ret
    exact er (bbw1 HB Ag)
   ·go_roundg k1
    case measure => have := AC.out; omega
    case rel => exact ⟨(wrap64 (Aa + 1)), (by first | rfl | (simp; done) | (simp [*]; done)), H', ⟨by have := AC.out; omega⟩, ⟨bkp Af⟩, ⟨bbw1 HB Ag⟩⟩
def impl_Mat_91.f (k : Nat) (l0 : List (S42)) (Aa : Int) (Ab : Int) (Ac : Int) (Ad : Int) : Option (Bool) := (impl_Mat_111.f k l0 Aa Ab Ac Ad).bind fun Af => (some (decide (Af ≥ 0)))
theorem impl_Mat_91.calls (k : Nat) (A0 : Option Addr) (c0 : Nat) (l0 : List (S42)) (Aa : Int) (Ab : Int) (Ac : Int) (Ad : Int) (r : Bool) (w : World) (hr0 : Kd.C k42 w A0 l0.length l0) (hc0 : l0.length ≤ c0) (h : impl_Mat_91.f k l0 Aa Ab Ac Ad = some r) :
  Calls Tryz.prog 91 #[.slice A0 l0.length c0, .agg #[.int .i64 Aa, .int .i64 Ab, .int .i64 Ac, .int .i64 Ad]] w fun e w' => e = .returned (.bool r) ∧ Below w.heap.size w w' := by
 have hu42 := Tryz.underlying42
 have HR0 := Aside0.mk hr0
 have Aq := Aside0.mk hc0
 clear hr0 hc0
 have HB := asd (Below.refl w.heap.size w)
 have H : ((impl_Mat_111.f k l0 Aa Ab Ac Ad).bind fun Af => (some (decide (Af ≥ 0)))) = some r := h
 clear h
 obtain ⟨Af, A3, H⟩ := ob H
 try dsimp only at H
 obtain rfl := Option.some.inj H
 go_enter Tryz.func91, Tryz.ntmps91
 go_wp2_with (first | ((with_reducible refine gd 3 rfl ?_); refine bx #[.int .i64 Aa, .int .i64 Ab, .int .i64 Ac, .int .i64 Ad] 42 ?_; intro Ap hg w4 Ae hb; have Ag := ngw0 hg HB; replace HB := bS0 HB hb; clear hb hg; obtain ⟨Ah, Ai, Aj, Ak, Al, Am, An, Ao⟩ := bz4 Ae) | ((with_reducible refine gate_callee (f := 111) rfl ?_); refine gl 7 Tryz.func111 #[.slice A0 l0.length c0, .agg #[.int .i64 Aa, .int .i64 Ab, .int .i64 Ac, .int .i64 Ad]] ?_; (with_reducible refine (impl_Mat_111.calls _ _ _ _ _ _ _ _ _ _ ?side1 ?side2 A3.out).mono ?_); (case side1 => exact ks (Kd.C_below HR0.out HB.out)); (case side2 => exact Aq.out); rintro e w6 ⟨rfl, hb⟩; refine ⟨_, rfl, ?_⟩; replace Ae := bB Ae hb; replace HB := bS1 HB Ag hb; (try clear hb)))
 go_ret
 exact er (bbw1 HB Ag)
def impl_compareNumbers.l0 : Nat → List Int → List Int → Int → Int → Option (Int)
 | 0, _, _, _, _ => none
 | k + 1, x0, x1, x7, x8 => if x8 < x7 then (if 0 ≤ x8 then (if x8 < (x0.length : Int) then (if x8 < (x1.length : Int) then (if (rd x0 x8) = (rd x1 x8) then (impl_compareNumbers.l0 k x0 x1 x7 (wrap64 (x8 + 1))) else (if (rd x0 x8) < (rd x1 x8) then (some (-1)) else (some 1))) else (none)) else (none)) else (none)) else (some 0)
def impl_compareNumbers.f (k : Nat) (l0 : List Int) (l1 : List Int) : Option (Int) := impl_compareNumbers.l0 k l0 l1 (l0.length : Int) 0
theorem impl_compareNumbers.calls (k : Nat) (A0 : Option Addr) (c0 : Nat) (l0 : List Int) (A1 : Option Addr) (c1 : Nat) (l1 : List Int) (r : Int) (w : World) (hr0 : Kd.C (Kd.int .i64) w A0 l0.length l0) (hc0 : l0.length ≤ c0) (hr1 : Kd.C (Kd.int .i64) w A1 l1.length l1) (hc1 : l1.length ≤ c1) (h : impl_compareNumbers.f k l0 l1 = some r) :
  Calls Tryz.prog 116 #[.slice A0 l0.length c0, .slice A1 l1.length c1] w fun e w' => e = .returned (.int .i64 r) ∧ Drawn0 w w' := by
 have HR0 := Aside0.mk hr0
 have An := Aside0.mk hc0
 clear hr0 hc0
 have HR1 := Aside0.mk hr1
 have Ao := Aside0.mk hc1
 clear hr1 hc1
 have H : (impl_compareNumbers.l0 k l0 l1 (l0.length : Int) 0) = some r := h
 clear h
 have H' := Aside0.mk H
 clear H
 go_enter Tryz.func116, Tryz.ntmps116
 go_wp2
 repeat (go_quiet (fail); try go_wp2)
 go_loopg [8] k (fun kq v8 w' => ∃ (Aa : Int), v8 = .int .i64 Aa ∧ Aside0 (impl_compareNumbers.l0 kq l0 l1 (l0.length : Int) Aa = some r) ∧ Aside0 (kq ≤ k) ∧ Drawn0 w w')
 case atStart => exact ⟨(0), (by first | rfl | (simp; done) | (simp [*]; done)), H', ⟨Nat.le_refl _⟩, by repeat (first | exact Drawn0.refl _ | apply Drawn0.step)⟩
 case round =>
  clear H'
  try clear c1
  obtain ⟨Aa, rfl, HA, Aj, ⟨m1, rfl⟩⟩ := hrel
  cases gk with
  | zero => exact absurd HA.out (by simp [impl_compareNumbers.l0])
  | succ k1 =>
   have H := HA.out
   clear HA
   simp only [impl_compareNumbers.l0] at H
   by_cases c3 : Aa < (l0.length : Int)
   rw [if_pos c3] at H
   have Af := decide_eq_true c3
   clear c3
   by_cases c4 : 0 ≤ Aa
   rw [if_pos c4] at H
   have Ak := decide_eq_true c4
   clear c4
   by_cases c5 : Aa < (l0.length : Int)
   rw [if_pos c5] at H
   have Al := decide_eq_true c5
   clear c5
   by_cases c6 : Aa < (l1.length : Int)
   rw [if_pos c6] at H
   have Am := decide_eq_true c6
   clear c6
   by_cases c7 : (rd l0 Aa) = (rd l1 Aa)
   rw [if_pos c7] at H
   have Ag : ((rd l0 Aa) == (rd l1 Aa)) = true := beq_iff_eq.mpr c7
   have Ah : ((rd l0 Aa) != (rd l1 Aa)) = false := bne_eq_false_iff_eq.mpr c7
   clear c7
   have H' := Aside0.mk H
   clear H
   rotate_left
   rw [if_neg c7] at H
   have Ag : ((rd l0 Aa) == (rd l1 Aa)) = false := beq_eq_false_iff_ne.mpr c7
   have Ah : ((rd l0 Aa) != (rd l1 Aa)) = true := bne_iff_ne.mpr c7
   by_cases c8 : (rd l0 Aa) < (rd l1 Aa)
   rw [if_pos c8] at H
   have Ai := decide_eq_true c8
   clear c8
   obtain rfl := Option.some.inj H
   rotate_left
   rw [if_neg c8] at H
   have Ai := decide_eq_false c8
   clear c8
   obtain rfl := Option.some.inj H
   rotate_left
   ·rw [if_neg c6] at H
    exact absurd H (by simp)
   ·rw [if_neg c5] at H
    exact absurd H (by simp)
   ·rw [if_neg c4] at H
    exact absurd H (by simp)
   rw [if_neg c3] at H
   have Af := decide_eq_false c3
   clear c3
   obtain rfl := Option.some.inj H
   rotate_left
   rotate_left 3
   ·go_wp2
    repeat (go_quiet (fail); try go_wp2)
    go_ret
    exact ⟨by first | rfl | (simp; done) | (simp [*]; done), by repeat (first | exact Drawn0.refl _ | apply Drawn0.step)⟩
   all_goals
    have p502 : 0 ≤ (Aa : Int) := od
    have q502 : Aa < (l0.length : Int) := od
    obtain ⟨ad502, e502, Ab⟩ := Kd.at_int HR0.out Aa p502 q502
    cases e502
    replace p502 := eq_true p502
    replace q502 := eq_true q502
    have p503 : 0 ≤ (Aa : Int) := od
    have q503 : Aa < (l1.length : Int) := od
    obtain ⟨ad503, e503, Ac⟩ := Kd.at_int HR1.out Aa p503 q503
    cases e503
    replace p503 := eq_true p503
    replace q503 := eq_true q503
   ·go_wp2
    repeat (go_quiet (fail); try go_wp2)
    go_roundg k1
    case measure => have := Aj.out; omega
    case rel => exact ⟨(wrap64 (Aa + 1)), (by first | rfl | (simp; done) | (simp [*]; done)), H', ⟨by have := Aj.out; omega⟩, by repeat (first | exact Drawn0.refl _ | apply Drawn0.step)⟩
   rotate_left 2
   all_goals
    have p504 : 0 ≤ (Aa : Int) := od
    have q504 : Aa < (l0.length : Int) := od
    obtain ⟨ad504, e504, Ad⟩ := Kd.at_int HR0.out Aa p504 q504
    obtain rfl : ad502 = ad504 := (by injection e504)
    replace p504 := eq_true p504
    replace q504 := eq_true q504
    have p505 : 0 ≤ (Aa : Int) := od
    have q505 : Aa < (l1.length : Int) := od
    obtain ⟨ad505, e505, Ae⟩ := Kd.at_int HR1.out Aa p505 q505
    obtain rfl : ad503 = ad505 := (by injection e505)
    replace p505 := eq_true p505
    replace q505 := eq_true q505
    go_wp2
    repeat (go_quiet (fail); try go_wp2)
    go_ret
    exact ⟨by first | rfl | (simp; done) | (simp [*]; done), by repeat (first | exact Drawn0.refl _ | apply Drawn0.step)⟩
def impl_compareVecs.f (k : Nat) (Ad : Int) (Ae : Int) (Ab : Int) (Ac : Int) : Option (Int) := (impl_compareNumbers.f k (([Ad, Ae] : List Int)) (([Ab, Ac] : List Int))).bind fun Ah => (some Ah)
theorem impl_compareVecs.calls (k : Nat) (Ad : Int) (Ae : Int) (Ab : Int) (Ac : Int) (r : Int) (w : World) (h : impl_compareVecs.f k Ad Ae Ab Ac = some r) :
  Calls Tryz.prog 97 #[.agg #[.int .i64 Ad, .int .i64 Ae], .agg #[.int .i64 Ab, .int .i64 Ac]] w fun e w' => e = .returned (.int .i64 r) ∧ Below w.heap.size w w' := by
 have hu44 := Tryz.underlying44
 have HB := asd (Below.refl w.heap.size w)
 have H : ((impl_compareNumbers.f k (([Ad, Ae] : List Int)) (([Ab, Ac] : List Int))).bind fun Ah => (some Ah)) = some r := h
 clear h
 obtain ⟨As, Ai⟩ : ∃ y_ : List Int, y_ = (([Ad, Ae] : List Int)) := ⟨_, rfl⟩
 replace H : ((impl_compareNumbers.f k As (([Ab, Ac] : List Int))).bind fun Ah => (some Ah)) = some r := by first | (rw [Ai]; with_reducible exact H) | (have H2_ := (Option.bind_some _ _).symm.trans H; rw [Ai]; with_reducible exact H2_) | (have H2_ := (Option.bind_some _ _).symm.trans H; with_reducible exact H2_) | with_reducible exact H | (rw [Ai]; exact H) | exact H
 have Aq := Aside0.mk Ai
 clear Ai
 obtain ⟨At, Aj⟩ : ∃ y_ : List Int, y_ = (([Ab, Ac] : List Int)) := ⟨_, rfl⟩
 replace H : ((impl_compareNumbers.f k As At).bind fun Ah => (some Ah)) = some r := by first | (rw [Aj]; with_reducible exact H) | (have H2_ := (Option.bind_some _ _).symm.trans H; rw [Aj]; with_reducible exact H2_) | (have H2_ := (Option.bind_some _ _).symm.trans H; with_reducible exact H2_) | with_reducible exact H | (rw [Aj]; exact H) | exact H
 have Ar := Aside0.mk Aj
 clear Aj
 obtain ⟨Ah, A3, H⟩ := ob H
 try dsimp only at H
 obtain rfl := Option.some.inj H
 go_enter Tryz.func97, Tryz.ntmps97
 go_wp2_with (first | ((with_reducible refine gd 2 rfl ?_); refine bx #[.int .i64 Ad, .int .i64 Ae] 44 ?_; intro AD hg w4 Aa hb; have Af := ngw0 hg HB; replace HB := bS0 HB hb; clear hb hg) | ((with_reducible refine gd 3 rfl ?_); refine bx #[.int .i64 Ab, .int .i64 Ac] 44 ?_; intro AE hg w5 Ak hb; have Al := ngw1 hg HB Af; replace HB := bS1 HB Af hb; have Am := nlt hg Aa; have An := nsy (nlt hg Aa); replace Aa := bB Aa hb; clear hb hg; have AF := Am.out; have AG := An.out; obtain ⟨Az, AA, AB, AC⟩ := bz2 Aa) | ((with_reducible refine gd 9 rfl ?_); refine Kd.R_lit (Kd.int .i64) _ 2 ?hg (N := 9) ?hd (xs := ([Ad, Ae] : List Int)) (inner := [.int .i64 Ad, .int .i64 Ae]) (ok := fun _ => True) (okp := fun _ => True) ?hr ?hp (fun _ hk => hk) trivial (Below.refl _ _) (Nat.le_refl _) (by simp) ?_; (case hd => rfl); (case hg => rfl); (case hr => first | (go_simp; done) | (go_simp; rfl)); (case hp => exact (Reps.one (show Kd.M (Kd.int .i64) _ _ _ Ad [.int .i64 Ad] from rfl) (Reps.one (show Kd.M (Kd.int .i64) _ _ _ Ae [.int .i64 Ae] from rfl) (Reps.none _ _)))); intro v509 w8 Au hb hg_ hnew_; clear hg_ hnew_; (first | rw [← Aq.out] at Au | (simp only [Int.reduceToNat] at Au; rw [← Aq.out] at Au)); have Ag := asd (Kd.R_lower Au (bsz2 HB Af Al)); replace Aa := bB Aa hb; replace Ak := bB Ak hb; replace HB := bS2 HB Af Al hb; clear hb Au; obtain ⟨Av, Aw, Ax, Ay⟩ := bz2 Ak) | ((with_reducible refine gd 14 rfl ?_); refine Kd.R_lit (Kd.int .i64) _ 2 ?hg (N := 14) ?hd (xs := ([Ab, Ac] : List Int)) (inner := [.int .i64 Ab, .int .i64 Ac]) (ok := fun _ => True) (okp := fun _ => True) ?hr ?hp (fun _ hk => hk) trivial (Below.refl _ _) (Nat.le_refl _) (by simp) ?_; (case hd => rfl); (case hg => rfl); (case hr => first | (go_simp; done) | (go_simp; rfl)); (case hp => exact (Reps.one (show Kd.M (Kd.int .i64) _ _ _ Ab [.int .i64 Ab] from rfl) (Reps.one (show Kd.M (Kd.int .i64) _ _ _ Ac [.int .i64 Ac] from rfl) (Reps.none _ _)))); intro v512 AH Ao hb hg_ hnew_; clear hg_ hnew_; (first | rw [← Ar.out] at Ao | (simp only [Int.reduceToNat] at Ao; rw [← Ar.out] at Ao)); have Ap := asd (Kd.R_lower (Kd.R_new' Ao (Kd.R_lt (kr Ag))) (bsz2 HB Af Al)); replace Ag := asd (Kd.R_elder' (kr Ag) (Kd.R_base Ao) hb); replace Aa := bB Aa hb; replace Ak := bB Ak hb; replace HB := bS2 HB Af Al hb; clear hb Ao; obtain ⟨Ao13, co13, eo13⟩ := Kd.R_slice Ag.out; subst eo13; obtain ⟨Ao14, co14, eo14⟩ := Kd.R_slice Ap.out; subst eo14) | ((with_reducible refine gate_callee (f := 116) rfl ?_); refine gl 15 Tryz.func116 #[.slice Ao13 As.length co13, .slice Ao14 At.length co14] ?_; (with_reducible refine (impl_compareNumbers.calls _ _ _ _ _ _ _ _ _ ?side1 ?side2 ?side3 ?side4 A3.out).mono ?_); (case side1 => exact ks (Kd.R_reads' Ag.out).2.2); (case side2 => exact (Kd.R_reads' Ag.out).2.1); (case side3 => exact ks (Kd.R_reads' Ap.out).2.2); (case side4 => exact (Kd.R_reads' Ap.out).2.1); rintro e w' ⟨rfl, ⟨nd, rfl⟩⟩; refine ⟨_, rfl, ?_⟩))
 go_ret
 exact er (bbw2 HB Af Al)
def impl_compareMats.f (k : Nat) (Af : Int) (Ag : Int) (Ah : Int) (Ai : Int) (Ab : Int) (Ac : Int) (Ad : Int) (Ae : Int) : Option (Int) := (impl_compareNumbers.f k (([Af, Ag, Ah, Ai] : List Int)) (([Ab, Ac, Ad, Ae] : List Int))).bind fun Al => (some Al)
theorem impl_compareMats.calls (k : Nat) (Af : Int) (Ag : Int) (Ah : Int) (Ai : Int) (Ab : Int) (Ac : Int) (Ad : Int) (Ae : Int) (r : Int) (w : World) (h : impl_compareMats.f k Af Ag Ah Ai Ab Ac Ad Ae = some r) :
  Calls Tryz.prog 113 #[.agg #[.int .i64 Af, .int .i64 Ag, .int .i64 Ah, .int .i64 Ai], .agg #[.int .i64 Ab, .int .i64 Ac, .int .i64 Ad, .int .i64 Ae]] w fun e w' => e = .returned (.int .i64 r) ∧ Below w.heap.size w w' := by
 have hu42 := Tryz.underlying42
 have HB := asd (Below.refl w.heap.size w)
 have H : ((impl_compareNumbers.f k (([Af, Ag, Ah, Ai] : List Int)) (([Ab, Ac, Ad, Ae] : List Int))).bind fun Al => (some Al)) = some r := h
 clear h
 obtain ⟨Aw, Am⟩ : ∃ y_ : List Int, y_ = (([Af, Ag, Ah, Ai] : List Int)) := ⟨_, rfl⟩
 replace H : ((impl_compareNumbers.f k Aw (([Ab, Ac, Ad, Ae] : List Int))).bind fun Al => (some Al)) = some r := by first | (rw [Am]; with_reducible exact H) | (have H2_ := (Option.bind_some _ _).symm.trans H; rw [Am]; with_reducible exact H2_) | (have H2_ := (Option.bind_some _ _).symm.trans H; with_reducible exact H2_) | with_reducible exact H | (rw [Am]; exact H) | exact H
 have Au := Aside0.mk Am
 clear Am
 obtain ⟨Ax, An⟩ : ∃ y_ : List Int, y_ = (([Ab, Ac, Ad, Ae] : List Int)) := ⟨_, rfl⟩
 replace H : ((impl_compareNumbers.f k Aw Ax).bind fun Al => (some Al)) = some r := by first | (rw [An]; with_reducible exact H) | (have H2_ := (Option.bind_some _ _).symm.trans H; rw [An]; with_reducible exact H2_) | (have H2_ := (Option.bind_some _ _).symm.trans H; with_reducible exact H2_) | with_reducible exact H | (rw [An]; exact H) | exact H
 have Av := Aside0.mk An
 clear An
 obtain ⟨Al, A3, H⟩ := ob H
 try dsimp only at H
 obtain rfl := Option.some.inj H
 go_enter Tryz.func113, Tryz.ntmps113
 go_wp2_with (first | ((with_reducible refine gd 2 rfl ?_); refine bx #[.int .i64 Af, .int .i64 Ag, .int .i64 Ah, .int .i64 Ai] 42 ?_; intro AP hg w4 Aa hb; have Aj := ngw0 hg HB; replace HB := bS0 HB hb; clear hb hg) | ((with_reducible refine gd 3 rfl ?_); refine bx #[.int .i64 Ab, .int .i64 Ac, .int .i64 Ad, .int .i64 Ae] 42 ?_; intro AQ hg w5 Ao hb; have Ap := ngw1 hg HB Aj; replace HB := bS1 HB Aj hb; have Aq := nlt hg Aa; have Ar := nsy (nlt hg Aa); replace Aa := bB Aa hb; clear hb hg; have AR := Aq.out; have AS := Ar.out; obtain ⟨AH, AI, AJ, AK, AL, AM, AN, AO⟩ := bz4 Aa) | ((with_reducible refine gd 13 rfl ?_); refine Kd.R_lit (Kd.int .i64) _ 2 ?hg (N := 13) ?hd (xs := ([Af, Ag, Ah, Ai] : List Int)) (inner := [.int .i64 Af, .int .i64 Ag, .int .i64 Ah, .int .i64 Ai]) (ok := fun _ => True) (okp := fun _ => True) ?hr ?hp (fun _ hk => hk) trivial (Below.refl _ _) (Nat.le_refl _) (by simp) ?_; (case hd => rfl); (case hg => rfl); (case hr => first | (go_simp; done) | (go_simp; rfl)); (case hp => exact (Reps.one (show Kd.M (Kd.int .i64) _ _ _ Af [.int .i64 Af] from rfl) (Reps.one (show Kd.M (Kd.int .i64) _ _ _ Ag [.int .i64 Ag] from rfl) (Reps.one (show Kd.M (Kd.int .i64) _ _ _ Ah [.int .i64 Ah] from rfl) (Reps.one (show Kd.M (Kd.int .i64) _ _ _ Ai [.int .i64 Ai] from rfl) (Reps.none _ _)))))); intro v518 w8 Ay hb hg_ hnew_; clear hg_ hnew_; (first | rw [← Au.out] at Ay | (simp only [Int.reduceToNat] at Ay; rw [← Au.out] at Ay)); have Ak := asd (Kd.R_lower Ay (bsz2 HB Aj Ap)); replace Aa := bB Aa hb; replace Ao := bB Ao hb; replace HB := bS2 HB Aj Ap hb; clear hb Ay; obtain ⟨Az, AA, AB, AC, AD, AE, AF, AG⟩ := bz4 Ao) | ((with_reducible refine gd 22 rfl ?_); refine Kd.R_lit (Kd.int .i64) _ 2 ?hg (N := 22) ?hd (xs := ([Ab, Ac, Ad, Ae] : List Int)) (inner := [.int .i64 Ab, .int .i64 Ac, .int .i64 Ad, .int .i64 Ae]) (ok := fun _ => True) (okp := fun _ => True) ?hr ?hp (fun _ hk => hk) trivial (Below.refl _ _) (Nat.le_refl _) (by simp) ?_; (case hd => rfl); (case hg => rfl); (case hr => first | (go_simp; done) | (go_simp; rfl)); (case hp => exact (Reps.one (show Kd.M (Kd.int .i64) _ _ _ Ab [.int .i64 Ab] from rfl) (Reps.one (show Kd.M (Kd.int .i64) _ _ _ Ac [.int .i64 Ac] from rfl) (Reps.one (show Kd.M (Kd.int .i64) _ _ _ Ad [.int .i64 Ad] from rfl) (Reps.one (show Kd.M (Kd.int .i64) _ _ _ Ae [.int .i64 Ae] from rfl) (Reps.none _ _)))))); intro v521 AT As hb hg_ hnew_; clear hg_ hnew_; (first | rw [← Av.out] at As | (simp only [Int.reduceToNat] at As; rw [← Av.out] at As)); have At := asd (Kd.R_lower (Kd.R_new' As (Kd.R_lt (kr Ak))) (bsz2 HB Aj Ap)); replace Ak := asd (Kd.R_elder' (kr Ak) (Kd.R_base As) hb); replace Aa := bB Aa hb; replace Ao := bB Ao hb; replace HB := bS2 HB Aj Ap hb; clear hb As; obtain ⟨Ao13, co13, eo13⟩ := Kd.R_slice Ak.out; subst eo13; obtain ⟨Ao14, co14, eo14⟩ := Kd.R_slice At.out; subst eo14) | ((with_reducible refine gate_callee (f := 116) rfl ?_); refine gl 23 Tryz.func116 #[.slice Ao13 Aw.length co13, .slice Ao14 Ax.length co14] ?_; (with_reducible refine (impl_compareNumbers.calls _ _ _ _ _ _ _ _ _ ?side1 ?side2 ?side3 ?side4 A3.out).mono ?_); (case side1 => exact ks (Kd.R_reads' Ak.out).2.2); (case side2 => exact (Kd.R_reads' Ak.out).2.1); (case side3 => exact ks (Kd.R_reads' At.out).2.2); (case side4 => exact (Kd.R_reads' At.out).2.1); rintro e w' ⟨rfl, ⟨nd, rfl⟩⟩; refine ⟨_, rfl, ?_⟩))
 go_ret
 exact er (bbw2 HB Aj Ap)
def impl_compareMotions.f (k : Nat) (Ah : Int) (Ai : Int) (Aj : Int) (Ak : Int) (Ap : Int) (Aq : Int) (Al : Int) (Am : Int) (An : Int) (Ao : Int) (Ar : Int) (As : Int) : Option (Int) := (impl_compareMats.f k Ah Ai Aj Ak Al Am An Ao).bind fun Af => (if Af = 0 then ((impl_compareVecs.f k Ap Aq Ar As).bind fun At => (some At)) else (some Af))
theorem impl_compareMotions.calls (k : Nat) (Ah : Int) (Ai : Int) (Aj : Int) (Ak : Int) (Ap : Int) (Aq : Int) (Al : Int) (Am : Int) (An : Int) (Ao : Int) (Ar : Int) (As : Int) (r : Int) (w : World) (h : impl_compareMotions.f k Ah Ai Aj Ak Ap Aq Al Am An Ao Ar As = some r) :
  Calls Tryz.prog 93 #[.agg #[.int .i64 Ah, .int .i64 Ai, .int .i64 Aj, .int .i64 Ak, .int .i64 Ap, .int .i64 Aq], .agg #[.int .i64 Al, .int .i64 Am, .int .i64 An, .int .i64 Ao, .int .i64 Ar, .int .i64 As]] w fun e w' => e = .returned (.int .i64 r) ∧ Below w.heap.size w w' := by
 have hu46 := Tryz.underlying46
 have hu42 := Tryz.underlying42
 have hu44 := Tryz.underlying44
 have HB := asd (Below.refl w.heap.size w)
 have H : ((impl_compareMats.f k Ah Ai Aj Ak Al Am An Ao).bind fun Af => (if Af = 0 then ((impl_compareVecs.f k Ap Aq Ar As).bind fun At => (some At)) else (some Af))) = some r := h
 clear h
 obtain ⟨Af, A3, H⟩ := ob H
 try dsimp only at H
 by_cases c4 : Af = 0
 ·rw [if_pos c4] at H
  have Bw : (Af == 0) = true := beq_iff_eq.mpr c4
  have Bx : (Af != 0) = false := bne_eq_false_iff_eq.mpr c4
  clear c4
  obtain ⟨At, A5, H⟩ := ob H
  try dsimp only at H
  obtain rfl := Option.some.inj H
  go_enter Tryz.func93, Tryz.ntmps93
  go_wp2_with (first | ((with_reducible refine gd 2 rfl ?_); refine bx #[.int .i64 Ah, .int .i64 Ai, .int .i64 Aj, .int .i64 Ak, .int .i64 Ap, .int .i64 Aq] 46 ?_; intro Au hg w6 Aa hb; have Ab := ngw0 hg HB; replace HB := bS0 HB hb; clear hb hg) | ((with_reducible refine gd 3 rfl ?_); refine bx #[.int .i64 Al, .int .i64 Am, .int .i64 An, .int .i64 Ao, .int .i64 Ar, .int .i64 As] 46 ?_; intro Av hg w7 Ac hb; have Ag := ngw1 hg HB Ab; replace HB := bS1 HB Ab hb; have Ad := nlt hg Aa; have Ae := nsy (nlt hg Aa); replace Aa := bB Aa hb; clear hb hg; have BM := Ad.out; have BN := Ae.out; obtain ⟨By, Bz, BA, BB, BC, BD, BE, BF, BG, BH, BI, BJ⟩ := bz6 Aa; obtain ⟨Aw, Ax, Ay, Az, AA, AB, AC, AD, AE, AF, AG, AH⟩ := bz6 Ac) | ((with_reducible refine gate_callee (f := 113) rfl ?_); refine gl 10 Tryz.func113 #[.agg #[.int .i64 Ah, .int .i64 Ai, .int .i64 Aj, .int .i64 Ak], .agg #[.int .i64 Al, .int .i64 Am, .int .i64 An, .int .i64 Ao]] ?_; (with_reducible refine (impl_compareMats.calls _ _ _ _ _ _ _ _ _ _ _ A3.out).mono ?_); rintro e BO ⟨rfl, hb⟩; refine ⟨_, rfl, ?_⟩; replace Aa := bB Aa hb; replace Ac := bB Ac hb; replace HB := bS2 HB Ab Ag hb; (try clear hb); obtain ⟨AI, AJ, AK, AL, AM, AN, AO, AP, AQ, AR, AS, AT⟩ := bz6 Aa; obtain ⟨AU, AV, AW, AX, AY, AZ, A0, A1, A2, A4, A6, A7⟩ := bz6 Ac) | ((with_reducible refine gate_callee (f := 97) rfl ?_); refine gl 18 Tryz.func97 #[.agg #[.int .i64 Ap, .int .i64 Aq], .agg #[.int .i64 Ar, .int .i64 As]] ?_; (with_reducible refine (impl_compareVecs.calls _ _ _ _ _ _ _ A5.out).mono ?_); rintro e BP ⟨rfl, hb⟩; refine ⟨_, rfl, ?_⟩; replace Aa := bB Aa hb; replace Ac := bB Ac hb; replace HB := bS2 HB Ab Ag hb; (try clear hb)))
  go_ret
  exact er (bbw2 HB Ab Ag)
 ·rw [if_neg c4] at H
  have Bw : (Af == 0) = false := beq_eq_false_iff_ne.mpr c4
  have Bx : (Af != 0) = true := bne_iff_ne.mpr c4
  obtain rfl := Option.some.inj H
  go_enter Tryz.func93, Tryz.ntmps93
  go_wp2_with (first | ((with_reducible refine gd 2 rfl ?_); refine bx #[.int .i64 Ah, .int .i64 Ai, .int .i64 Aj, .int .i64 Ak, .int .i64 Ap, .int .i64 Aq] 46 ?_; intro Au hg BQ Aa hb; have Ab := ngw0 hg HB; replace HB := bS0 HB hb; clear hb hg) | ((with_reducible refine gd 3 rfl ?_); refine bx #[.int .i64 Al, .int .i64 Am, .int .i64 An, .int .i64 Ao, .int .i64 Ar, .int .i64 As] 46 ?_; intro Av hg BR Ac hb; have Ag := ngw1 hg HB Ab; replace HB := bS1 HB Ab hb; have Ad := nlt hg Aa; have Ae := nsy (nlt hg Aa); replace Aa := bB Aa hb; clear hb hg; have BK := Ad.out; have BL := Ae.out; obtain ⟨A8, A9, Ba, Bb, Bc, Bd, Be, Bf, Bg, Bh, Bi, Bj⟩ := bz6 Aa; obtain ⟨Bk, Bl, Bm, Bn, Bo, Bp, Bq, Br, Bs, Bt, Bu, Bv⟩ := bz6 Ac) | ((with_reducible refine gate_callee (f := 113) rfl ?_); refine gl 10 Tryz.func113 #[.agg #[.int .i64 Ah, .int .i64 Ai, .int .i64 Aj, .int .i64 Ak], .agg #[.int .i64 Al, .int .i64 Am, .int .i64 An, .int .i64 Ao]] ?_; (with_reducible refine (impl_compareMats.calls _ _ _ _ _ _ _ _ _ _ _ A3.out).mono ?_); rintro e BS ⟨rfl, hb⟩; refine ⟨_, rfl, ?_⟩; replace Aa := bB Aa hb; replace Ac := bB Ac hb; replace HB := bS2 HB Ab Ag hb; (try clear hb)))
  go_ret
  exact er (bbw2 HB Ab Ag)
end Go.Proofs.YtfmjboloeabjmaaGreat.PA
