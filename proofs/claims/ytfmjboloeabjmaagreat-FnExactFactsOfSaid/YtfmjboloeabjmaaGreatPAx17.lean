import Derived.Test.YtfmjboloeabjmaaGreatPAx0
import Derived.Test.YtfmjboloeabjmaaGreatPAx2
import Derived.Test.YtfmjboloeabjmaaGreatPAx13
import Derived.Test.YtfmjboloeabjmaaGreatPAx15
import Derived.Test.YtfmjboloeabjmaaGreatPAx16
namespace Go.Proofs.YtfmjboloeabjmaaGreat.PA
open Go.RowKit Go.Proofs.YtfmjboloeabjmaaGreatW.PrintWords Go.Proofs.YtfmjboloeabjmaaGreatW.PrintLast Go.Proofs.YtfmjboloeabjmaaGreatW.PrintMore
attribute [local go_sem] max2_int min2_int max_two min_two max_three min_three max_four min_four   -- for this text's walks alone
set_option linter.unusedVariables false
set_option maxHeartbeats 8000000
set_option maxRecDepth 100000
set_option linter.unusedSimpArgs false
attribute [local go_sem high] eqA42
def impl_groupCode.l0 : Nat → Int → List (List (S46)) → Int → Int → Int → Int → Int → Option (Int)
 | 0, _, _, _, _, _, _, _ => none
 | k + 1, x0, AE, AG, As, Ah, Ai, Aj => if As < AG then (if 0 ≤ As then (if As < (AE.length : Int) then ((impl_isGroup.f k x0 Ah Ai Aj (rd_L9 AE As)).bind fun Al => (if Al = true then (impl_groupCode.l0 k x0 AE AG (wrap64 (As + 1)) Ah Ai Aj) else (some 2))) else (none)) else (none)) else (some 0)
def impl_groupCode.f (k : Nat) (a0 : Int) (Ac : Int) (Ad : Int) (Ae : Int) (l2 : List (List (S46))) : Option (Int) := (impl_frameCode.f a0 Ac Ad Ae).bind fun Af => (if Af = 0 then (impl_groupCode.l0 k a0 l2 (l2.length : Int) 0 Ac Ad Ae) else (some Af))
theorem impl_groupCode.calls (k : Nat) (a0 : Int) (Ac : Int) (Ad : Int) (Ae : Int) (A2 : Option Addr) (c2 : Nat) (l2 : List (List (S46))) (r : Int) (w : World) (hr2 : Kd.C (Kd.slice 46 k46) w A2 l2.length l2) (hc2 : l2.length ≤ c2) (h : impl_groupCode.f k a0 Ac Ad Ae l2 = some r) :
  Calls Tryz.prog 30 #[.int .i64 a0, .agg #[.int .i64 Ac, .int .i64 Ad, .int .i64 Ae], .slice A2 l2.length c2] w fun e w' => e = .returned (.int .i64 r) ∧ Below w.heap.size w w' := by
 have hu30 := Tryz.underlying30
 have HR2 := Aside0.mk hr2
 have AL := Aside0.mk hc2
 clear hr2 hc2
 have HB := asd (Below.refl w.heap.size w)
 have H : ((impl_frameCode.f a0 Ac Ad Ae).bind fun Af => (if Af = 0 then (impl_groupCode.l0 k a0 l2 (l2.length : Int) 0 Ac Ad Ae) else (some Af))) = some r := h
 clear h
 obtain ⟨Af, A4, H⟩ := ob H
 try dsimp only at H
 by_cases c5 : Af = 0
 rw [if_pos c5] at H
 have At : (Af == 0) = true := beq_iff_eq.mpr c5
 have Au : (Af != 0) = false := bne_eq_false_iff_eq.mpr c5
 clear c5
 have H' := Aside0.mk H
 clear H
 rotate_left
 rw [if_neg c5] at H
 have At : (Af == 0) = false := beq_eq_false_iff_ne.mpr c5
 have Au : (Af != 0) = true := bne_iff_ne.mpr c5
 obtain rfl := Option.some.inj H
 rotate_left
 all_goals
  go_enter Tryz.func30, Tryz.ntmps30
  go_wp2_with (first | ((with_reducible refine gd 4 rfl ?_); refine bx #[.int .i64 Ac, .int .i64 Ad, .int .i64 Ae] 30 ?_; intro Av hg w6 Ab hb; have Ag := ngw0 hg HB; replace HB := bS0 HB hb; clear hb hg; obtain ⟨Am, An, Ao, Ap, Aq, Ar⟩ := bz3 Ab) | ((with_reducible refine gate_callee (f := 60) rfl ?_); refine gl 12 Tryz.func60 #[.int .i64 a0, .agg #[.int .i64 Ac, .int .i64 Ad, .int .i64 Ae]] ?_; (with_reducible refine (impl_frameCode.calls _ _ _ _ _ _ A4.out).mono ?_); rintro e w8 ⟨rfl, hb⟩; refine ⟨_, rfl, ?_⟩; replace Ab := bB Ab hb; replace HB := bS1 HB Ag hb; (try clear hb)))
 ·go_loopg [18] k (fun kq v18 w' => ∃ (Aa : Int), v18 = .int .i64 Aa ∧ Aside0 (impl_groupCode.l0 kq a0 l2 (l2.length : Int) Aa Ac Ad Ae = some r) ∧ Aside0 (kq ≤ k) ∧ Aside0 (w'.heap[Av]? = some (.cells #[.int .i64 Ac, .int .i64 Ad, .int .i64 Ae] 30 (0, 0))) ∧ Aside0 (Below w.heap.size w w'))
  case atStart => exact ⟨(0), (by first | rfl | (simp; done) | (simp [*]; done)), H', ⟨Nat.le_refl _⟩, ⟨bkp Ab⟩, ⟨bbw1 HB Ag⟩⟩
  case round =>
   clear H'
   try clear c2
   try clear c5
   try clear At
   try clear Au
   try clear Am
   try clear An
   try clear Ao
   try clear Ap
   try clear Aq
   try clear Ar
   obtain ⟨Aa, rfl, HA, AH, Ab, HB⟩ := hrel
   cases gk with
   | zero => exact absurd HA.out (by simp [impl_groupCode.l0])
   | succ k1 =>
    have H := HA.out
    clear HA
    simp only [impl_groupCode.l0] at H
    by_cases c9 : Aa < (l2.length : Int)
    rw [if_pos c9] at H
    have AF := decide_eq_true c9
    clear c9
    by_cases c10 : 0 ≤ Aa
    rw [if_pos c10] at H
    have AI := decide_eq_true c10
    clear c10
    by_cases Aw : Aa < (l2.length : Int)
    rw [if_pos Aw] at H
    have AJ := decide_eq_true Aw
    clear Aw
    obtain ⟨Al, AK, H⟩ := ob H
    try dsimp only at H
    by_cases Ax : Al = true
    subst Ax
    replace H := ifT H
    have H' := Aside0.mk H
    clear H
    rotate_left
    replace Ax := Bool.eq_false_iff.mpr Ax
    subst Ax
    replace H := ifF H
    obtain rfl := Option.some.inj H
    rotate_left
    ·rw [if_neg Aw] at H
     exact absurd H (by simp)
    ·rw [if_neg c10] at H
     exact absurd H (by simp)
    rw [if_neg c9] at H
    have AF := decide_eq_false c9
    clear c9
    obtain rfl := Option.some.inj H
    rotate_left
    rotate_left 2
    ·go_wp2
     go_ret
     exact er (bbw1 HB Ag)
    all_goals
     have p594 : 0 ≤ (Aa : Int) := od
     have q594 : Aa < (l2.length : Int) := od
     obtain ⟨ad594, A594_0, c594_0, e594, Ak, hl594_0, hi594_0⟩ := at_L9 HR2.out Aa p594 q594
     cases e594
     replace Ak := xb HB Ak
     have HR594_0 := Aside0.mk hi594_0
     have HC594_0 := Aside0.mk hl594_0
     clear hi594_0 hl594_0
     replace p594 := eq_true p594
     replace q594 := eq_true q594
     obtain ⟨Ay, Az, AA, AB, AC, AD⟩ := bz3 Ab
     go_wp2_with (first | ((with_reducible refine gate_callee (f := 61) rfl ?_); refine gl 25 Tryz.func61 #[.int .i64 a0, .agg #[.int .i64 Ac, .int .i64 Ad, .int .i64 Ae], .slice A594_0 (rd_L9 l2 Aa).length c594_0] ?_; (with_reducible refine (impl_isGroup.calls _ _ _ _ _ _ _ _ _ _ ?side1 ?side2 AK.out).mono ?_); (case side1 => exact ks (Kd.C_below HR594_0.out HB.out)); (case side2 => exact HC594_0.out); rintro e AM ⟨rfl, hb⟩; refine ⟨_, rfl, ?_⟩; replace Ab := bB Ab hb; replace HB := bS1 HB Ag hb; (try clear hb)))
    ·go_roundg k1
     case measure => have := AH.out; omega
     case rel => exact ⟨(wrap64 (Aa + 1)), (by first | rfl | (simp; done) | (simp [*]; done)), H', ⟨by have := AH.out; omega⟩, ⟨bkp Ab⟩, ⟨bbw1 HB Ag⟩⟩
    ·go_ret
     exact er (bbw1 HB Ag)
 ·go_ret
  exact er (bbw1 HB Ag)
def impl_shiftsOf.l0 : Nat → List (S44) → List (S46) → Int → Int → Option ((List (S44)))
 | 0, _, _, _, _ => none
 | k + 1, x3, x7, x8, x9 => if x9 < x8 then (if 0 ≤ x9 then (if x9 < (x7.length : Int) then ((impl_unit.f).bind fun Am => (if (((rd_T46 x7 x9).f0.f0) == Am.1 && (((rd_T46 x7 x9).f0.f1) == Am.2.1 && (((rd_T46 x7 x9).f0.f2) == Am.2.2.1 && (((rd_T46 x7 x9).f0.f3) == Am.2.2.2)))) = true then (if x3.length < 8796093022208 then (impl_shiftsOf.l0 k (x3 ++ [(⟨(rd_T46 x7 x9).f1.f0, (rd_T46 x7 x9).f1.f1⟩ : S44)]) x7 x8 (wrap64 (x9 + 1))) else (none)) else (impl_shiftsOf.l0 k x3 x7 x8 (wrap64 (x9 + 1))))) else (none)) else (none)) else (some x3)
def impl_shiftsOf.f (k : Nat) (l0 : List (S46)) : Option ((List (S44))) := impl_shiftsOf.l0 k (([] : List (S44))) l0 (l0.length : Int) 0
theorem impl_shiftsOf.calls (k : Nat) (A0 : Option Addr) (c0 : Nat) (l0 : List (S46)) (r : List (S44)) (w : World) (hr0 : Kd.C k46 w A0 l0.length l0) (hc0 : l0.length ≤ c0) (h : impl_shiftsOf.f k l0 = some r) :
  Calls Tryz.prog 31 #[.slice A0 l0.length c0] w fun e w' => ∃ v0_ : Value, e = .returned (v0_) ∧ Kd.R k44 44 w' w.heap.size (fun _ => True) v0_ r ∧ Below w.heap.size w w' := by
 have hu46 := Tryz.underlying46
 have hu42 := Tryz.underlying42
 have hu44 := Tryz.underlying44
 have HR0 := Aside0.mk hr0
 have Bd := Aside0.mk hc0
 clear hr0 hc0
 have HB := asd (Below.refl w.heap.size w)
 have H : (impl_shiftsOf.l0 k (([] : List (S44))) l0 (l0.length : Int) 0) = some r := h
 clear h
 obtain ⟨Ao, Af⟩ : ∃ y_ : List (S44), y_ = (([] : List (S44))) := ⟨_, rfl⟩
 replace H : (impl_shiftsOf.l0 k Ao l0 (l0.length : Int) 0) = some r := by first | (rw [Af]; with_reducible exact H) | (have H2_ := (Option.bind_some _ _).symm.trans H; rw [Af]; with_reducible exact H2_) | (have H2_ := (Option.bind_some _ _).symm.trans H; with_reducible exact H2_) | with_reducible exact H | (rw [Af]; exact H) | exact H
 have An := Aside0.mk Af
 clear Af
 have H' := Aside0.mk H
 clear H
 go_enter Tryz.func31, Tryz.ntmps31
 go_wp2_with (first | ((with_reducible refine gd 6 rfl ?_); refine Kd.R_lit k44 _ 44 ?hg (N := 6) ?hd (xs := ([] : List (S44))) (inner := []) (ok := fun _ => True) (okp := fun _ => True) ?hr ?hp (fun _ hk => hk) trivial (Below.refl _ _) (Nat.le_refl _) (by simp) ?_; (case hd => rfl); (case hg => rfl); (case hr => first | (go_simp; done) | (go_simp; rfl)); (case hp => exact (Reps.none _ _)); intro v597 w2 Ap hb hg_ hnew_; clear hg_ hnew_; (first | rw [← An.out] at Ap | (simp only [Int.reduceToNat] at Ap; rw [← An.out] at Ap)); have Aq := asd (Kd.R_lower Ap (bsz0 HB)); replace HB := bS0 HB hb; clear hb Ap))
 go_loopg [3, 9] k (fun kq v3 v9 w' => ∃ (Ag : List (S44)) (Aa : Int), v9 = .int .i64 Aa ∧ Aside0 (impl_shiftsOf.l0 kq Ag l0 (l0.length : Int) Aa = some r) ∧ Aside0 (kq ≤ k) ∧ Aside0 (Kd.R k44 44 w' w.heap.size (fun _ => True) v3 Ag) ∧ Aside0 (Below w.heap.size w w'))
 case atStart => exact ⟨(Ao), (0), (by first | rfl | (simp; done) | (simp [*]; done)), H', ⟨Nat.le_refl _⟩, ⟨by (with_reducible repeat (first | apply Kd.R_alloc | apply Kd.R_drewN | apply Kd.R_drew)); exact Aq.out⟩, ⟨bbw0 HB⟩⟩
 case round =>
  clear H'
  obtain ⟨Ag, Aa, rfl, HA, Au, Ac, HB⟩ := hrel
  cases gk with
  | zero => exact absurd HA.out (by simp [impl_shiftsOf.l0])
  | succ k1 =>
   have H := HA.out
   clear HA
   simp only [impl_shiftsOf.l0] at H
   by_cases c4 : Aa < (l0.length : Int)
   rw [if_pos c4] at H
   have AZ := decide_eq_true c4
   clear c4
   by_cases c5 : 0 ≤ Aa
   rw [if_pos c5] at H
   have A9 := decide_eq_true c5
   clear c5
   by_cases c6 : Aa < (l0.length : Int)
   rw [if_pos c6] at H
   have Ba := decide_eq_true c6
   clear c6
   obtain ⟨⟨Ai, Aj, Ak, Al⟩, A7, H⟩ := ob H
   try dsimp only at H
   by_cases c8 : (((rd_T46 l0 Aa).f0.f0) == Ai && (((rd_T46 l0 Aa).f0.f1) == Aj && (((rd_T46 l0 Aa).f0.f2) == Ak && (((rd_T46 l0 Aa).f0.f3) == Al)))) = true
   rw [if_pos c8] at H
   have A1 := c8
   (try (have A2 : decide (((rd_T46 l0 Aa).f0.f0) = Ai && (((rd_T46 l0 Aa).f0.f1) == Aj && (((rd_T46 l0 Aa).f0.f2) == Ak && (((rd_T46 l0 Aa).f0.f3) == Al)))) = true := by simpa using c8))
   (try (have A3 : (((rd_T46 l0 Aa).f0.f0) == Ai && (((rd_T46 l0 Aa).f0.f1) == Aj && (((rd_T46 l0 Aa).f0.f2) == Ak && (((rd_T46 l0 Aa).f0.f3) == Al)))) = true := by simpa using c8))
   clear c8
   by_cases c9 : Ag.length < 8796093022208
   rw [if_pos c9] at H
   have A4 := Aside0.mk c9
   clear c9
   obtain ⟨Ar, Ah⟩ : ∃ y_ : List (S44), y_ = (Ag ++ [(⟨(rd_T46 l0 Aa).f1.f0, (rd_T46 l0 Aa).f1.f1⟩ : S44)]) := ⟨_, rfl⟩
   replace H : (impl_shiftsOf.l0 k1 Ar l0 (l0.length : Int) (wrap64 (Aa + 1))) = some r := by first | (rw [Ah]; with_reducible exact H) | (have H2_ := (Option.bind_some _ _).symm.trans H; rw [Ah]; with_reducible exact H2_) | (have H2_ := (Option.bind_some _ _).symm.trans H; with_reducible exact H2_) | with_reducible exact H | (rw [Ah]; exact H) | exact H
   have As := Aside0.mk Ah
   clear Ah
   have H' := Aside0.mk H
   clear H
   rotate_left
   ·rw [if_neg c9] at H
    exact absurd H (by simp)
   rw [if_neg c8] at H
   have A1 : (((rd_T46 l0 Aa).f0.f0) == Ai && (((rd_T46 l0 Aa).f0.f1) == Aj && (((rd_T46 l0 Aa).f0.f2) == Ak && (((rd_T46 l0 Aa).f0.f3) == Al)))) = false := by simpa using c8
   (try (have A2 : decide (((rd_T46 l0 Aa).f0.f0) = Ai && (((rd_T46 l0 Aa).f0.f1) == Aj && (((rd_T46 l0 Aa).f0.f2) == Ak && (((rd_T46 l0 Aa).f0.f3) == Al)))) = false := by simpa using c8))
   (try (have A3 : (((rd_T46 l0 Aa).f0.f0) == Ai && (((rd_T46 l0 Aa).f0.f1) == Aj && (((rd_T46 l0 Aa).f0.f2) == Ak && (((rd_T46 l0 Aa).f0.f3) == Al)))) = false := by simpa using c8))
   (try (have Bb : ¬ (((rd_T46 l0 Aa).f0.f0) = Ai && (((rd_T46 l0 Aa).f0.f1) == Aj && (((rd_T46 l0 Aa).f0.f2) == Ak && (((rd_T46 l0 Aa).f0.f3) == Al)))) := by simpa using c8))
   clear c8
   have H' := Aside0.mk H
   clear H
   rotate_left
   ·rw [if_neg c6] at H
    exact absurd H (by simp)
   ·rw [if_neg c5] at H
    exact absurd H (by simp)
   rw [if_neg c4] at H
   have AZ := decide_eq_false c4
   clear c4
   obtain rfl := Option.some.inj H
   rotate_left
   rotate_left 2
   ·go_wp2
    go_ret
    exact ⟨_, by first | rfl | (simp [errW_none, errW_some] <;> rfl) | (simp [*, errW_none, errW_some] <;> rfl), by (with_reducible repeat (first | apply Kd.R_alloc | apply Kd.R_drewN | apply Kd.R_drew)); exact Ac.out, bbw0 HB⟩
   all_goals
    obtain ⟨p599, q599, ad599, e599, Av, Aw, Ax, Ay, Az, AA⟩ := at_T46x HR0.out HB Aa
    cases e599
    try go_wp2_with (first | ((with_reducible refine gd 5 rfl ?_); refine bx #[.int .i64 0, .int .i64 0, .int .i64 0, .int .i64 0, .int .i64 0, .int .i64 0] 46 ?_; intro Ad hg Bc Ab hb; replace Ac := asd (Kd.R_below (kr Ac) hb); have Ae := ngw0 hg HB; replace HB := bS0 HB hb; clear hb hg; obtain ⟨AB, AC, AD, AE, AF, AG, AH, AI, AJ, AK, AL, AM⟩ := bz6 Ab))
    obtain ⟨w12, h_w12⟩ : ∃ w_, ((((((Bc.setCell ⟨Ad, 0, none⟩ (.int .i64 ((rd_T46 l0 Aa).f0.f0))).setCell ⟨Ad, 1, none⟩ (.int .i64 ((rd_T46 l0 Aa).f0.f1))).setCell ⟨Ad, 2, none⟩ (.int .i64 ((rd_T46 l0 Aa).f0.f2))).setCell ⟨Ad, 3, none⟩ (.int .i64 ((rd_T46 l0 Aa).f0.f3))).setCell ⟨Ad, 4, none⟩ (.int .i64 ((rd_T46 l0 Aa).f1.f0))).setCell ⟨Ad, 5, none⟩ (.int .i64 ((rd_T46 l0 Aa).f1.f1))) = w_ := ⟨_, rfl⟩
    replace Ac : Aside0 (Kd.R k44 44 w12 w.heap.size (fun _ => True) u3 Ag) := by rw [← h_w12]; exact ⟨by (with_reducible repeat (first | apply Kd.R_alloc | apply Kd.R_drewN | apply Kd.R_drew)); exact Kd.R_mono (rw6 (Kd.R_types Ac.out Ab.out (by decide))) (fun _ hk => trivial)⟩
    replace Ab : Aside0 (w12.heap[Ad]? = some (.cells #[.int .i64 ((rd_T46 l0 Aa).f0.f0), .int .i64 ((rd_T46 l0 Aa).f0.f1), .int .i64 ((rd_T46 l0 Aa).f0.f2), .int .i64 ((rd_T46 l0 Aa).f0.f3), .int .i64 ((rd_T46 l0 Aa).f1.f0), .int .i64 ((rd_T46 l0 Aa).f1.f1)] 46 (0, 0))) := by rw [← h_w12]; exact ⟨bq0 Ab⟩
    replace HB : Aside0 (Below w.heap.size w w12) := by rw [← h_w12]; exact ⟨bbw1 HB Ae⟩
    (try rw [h_w12]); clear h_w12
    replace Ac := asd (Kd.R_drew Ac.out)
    replace Ab := asd (blk_drew Ab.out)
    replace HB := asd (below_drew1 HB.out)
    refine sh 4 (eb6 Ab) (fun hHeld => ?_)
    generalize w12.drew = Be at Ac Ab HB hHeld ⊢
    refine pure_ (i := 0) (N := some 13) (v := ?_) (a' := ?_) (bT 4 1) rfl rfl (by kernel_rfl) (fun _ _ _ h => h) (Or.inl ⟨by rfl, ?_⟩) ?_ ?_
    rotate_left
    ·intro w'
     go_simp
     with_reducible rfl
    rotate_left
    ·simp only [Act.put, sA, sB, sC, i64_w, i32_w]
     rfl
    refine take_ (i := 1) (N := some 14) (v := ?_) (a' := ?_) (bT 4 2) rfl rfl (by kernel_rfl) (fun _ _ _ h => h) (Or.inl ⟨by rfl, ?_⟩) hHeld ?_ ?_
    rotate_left
    ·rintro w' ⟨s0, s1, s2, s3, s4, s5⟩
     go_simp
     with_reducible rfl
    rotate_left
    ·simp only [Act.put, sA, sB, sC, i64_w, i32_w]
     rfl
    refine one_ (i := 2) (N := some 15) (bT 4 3) rfl rfl (by kernel_rfl) (by decide) (fun K hK => ?_)
    refine gs Tryz.func62 #[] ?_
    with_reducible refine (impl_unit.calls _ _ _ _ _ A7.out).mono ?_
    rintro e Bf ⟨rfl, hb⟩
    refine ⟨_, rfl, ?_⟩
    replace Ac := asd (Kd.R_below (kr Ac) hb)
    replace Ab := bB Ab hb
    replace HB := bS1 HB Ae hb
    (try clear hb)
    (try clear hb2)
    (try clear hk)
    (try clear hi)
    refine hK.out _ _ (eb6 Ab).out (fun hHeld => ?_)
    clear hK K
    refine norm_ (a' := ?_) ?_ ?_
    rotate_left
    ·show Act.put _ (some 15) _ = _
     simp only [Act.put, sA, sB, sC, i64_w, i32_w]
     rfl
    refine pure_ (i := 3) (N := some 16) (v := ?_) (a' := ?_) (bT 4 4) rfl rfl (by kernel_rfl) (fun _ _ _ h => h) (Or.inl ⟨by rfl, ?_⟩) ?_ ?_
    rotate_left
    ·intro w'
     go_simp
     with_reducible rfl
    rotate_left
    ·simp only [Act.put, sA, sB, sC, i64_w, i32_w]
     rfl
    refine done_ (by kernel_rfl) ?_
   ·obtain ⟨AN, AO, AP, AQ, AR, AS, AT, AU, AV, AW, AX, AY⟩ := bz6 Ab
    try go_wp2_with (first | ((with_reducible refine gate_builtin (b := .append) (xs := #[.tmp 17, .tmp 20]) rfl ?_); at_builtin; refine Kd.R_append k44 (w0 := w) w.heap.size rfl (.tmp 17) (.tmp 20) 38 44 (.agg #[(.int .i64 0), (.int .i64 0)]) 16 rfl Tryz.underlying38 info44 rfl (by decide) (by omega) u3 Ag (⟨(rd_T46 l0 Aa).f1.f0, (rd_T46 l0 Aa).f1.f1⟩ : S44) [.int .i64 ((rd_T46 l0 Aa).f1.f0), .int .i64 ((rd_T46 l0 Aa).f1.f1)] (fun _ => True) (fun _ => False) rfl rfl ?aP (fun _ hk => hk.elim) ?aF ?aO ?aB ?aS ?aL ?_; (case aP => exact k44_mkM _ _ _ (⟨(rd_T46 l0 Aa).f1.f0, (rd_T46 l0 Aa).f1.f1⟩ : S44)); (case aB => exact (bbw1 HB Ae)); (case aF => exact (fun _ _ => trivial)); (case aO => exact (kr Ac)); (case aS => exact (bsz1 HB Ae)); (case aL => have := A4.out; omega); intro v606 Bg ho hb hg hat; rw [← As.out] at ho; have A5 := asd (blk_grown (g := Ad) (o := .cells #[.int .i64 ((rd_T46 l0 Aa).f0.f0), .int .i64 ((rd_T46 l0 Aa).f0.f1), .int .i64 ((rd_T46 l0 Aa).f0.f2), .int .i64 ((rd_T46 l0 Aa).f0.f3), .int .i64 ((rd_T46 l0 Aa).f1.f0), .int .i64 ((rd_T46 l0 Aa).f1.f1)] 46 (0, 0)) (bkp Ab) hg (Kd.R_ne Ac.out Ab.out (by decide))); have A6 := asd (hb); have A8 := asd (ho); clear Ab; clear HB; clear Ac; have Ab := A5; have HB := A6; have At := A8; clear A5 A6 A8; clear ho hb hg hat))
    go_roundg k1
    case measure => have := Au.out; omega
    case rel => exact ⟨(Ar), (wrap64 (Aa + 1)), (by first | rfl | (simp; done) | (simp [*]; done)), H', ⟨by have := Au.out; omega⟩, ⟨by (with_reducible repeat (first | apply Kd.R_alloc | apply Kd.R_drewN | apply Kd.R_drew)); exact At.out⟩, ⟨bbw1 HB Ae⟩⟩
   ·try go_wp2
    go_roundg k1
    case measure => have := Au.out; omega
    case rel => exact ⟨(Ag), (wrap64 (Aa + 1)), (by first | rfl | (simp; done) | (simp [*]; done)), H', ⟨by have := Au.out; omega⟩, ⟨by (with_reducible repeat (first | apply Kd.R_alloc | apply Kd.R_drewN | apply Kd.R_drew)); exact Ac.out⟩, ⟨bbw1 HB Ae⟩⟩
def impl_fixedCode.f (k : Nat) (a0 : Int) (Ag : Int) (Ah : Int) (Ai : Int) (l2 : List (S46)) : Option (Int) := (impl_groupCode.f k a0 Ag Ah Ai (([l2] : List (List (S46))))).bind fun Aa => (if Aa = 0 then ((impl_shiftsOf.f k l2).bind fun Ad => (if (Ad.length : Int) > 1 then (some 5) else (some 0))) else (some Aa))
theorem impl_fixedCode.calls (k : Nat) (a0 : Int) (Ag : Int) (Ah : Int) (Ai : Int) (P2_ : Nat → Prop) (A2 : Option Addr) (c2 : Nat) (l2 : List (S46)) (r : Int) (w : World) (hs2 : Kd.V k46 46 w w.heap.size (fun k_ => P2_ k_) (.slice A2 l2.length c2) l2) (h : impl_fixedCode.f k a0 Ag Ah Ai l2 = some r) :
  Calls Tryz.prog 15 #[.int .i64 a0, .agg #[.int .i64 Ag, .int .i64 Ah, .int .i64 Ai], .slice A2 l2.length c2] w fun e w' => e = .returned (.int .i64 r) ∧ Below w.heap.size w w' := by
 have hu30 := Tryz.underlying30
 have Al := asd (show Kd.V k46 46 w w.heap.size (fun k_ => (P2_ k_ ∨ w.heap.size ≤ k_)) (.slice A2 l2.length c2) l2 from Kd.V_mono hs2 (fun k_ hk => .inl hk))
 have HB := asd (Below.refl w.heap.size w)
 have H : ((impl_groupCode.f k a0 Ag Ah Ai (([l2] : List (List (S46))))).bind fun Aa => (if Aa = 0 then ((impl_shiftsOf.f k l2).bind fun Ad => (if (Ad.length : Int) > 1 then (some 5) else (some 0))) else (some Aa))) = some r := h
 clear h
 obtain ⟨An, Aj⟩ : ∃ y_ : List (List (S46)), y_ = (([l2] : List (List (S46)))) := ⟨_, rfl⟩
 replace H : ((impl_groupCode.f k a0 Ag Ah Ai An).bind fun Aa => (if Aa = 0 then ((impl_shiftsOf.f k l2).bind fun Ad => (if (Ad.length : Int) > 1 then (some 5) else (some 0))) else (some Aa))) = some r := by first | (rw [Aj]; with_reducible exact H) | (have H2_ := (Option.bind_some _ _).symm.trans H; rw [Aj]; with_reducible exact H2_) | (have H2_ := (Option.bind_some _ _).symm.trans H; with_reducible exact H2_) | with_reducible exact H | (rw [Aj]; exact H) | exact H
 have Am := Aside0.mk Aj
 clear Aj
 obtain ⟨Aa, A4, H⟩ := ob H
 try dsimp only at H
 by_cases c5 : Aa = 0
 rw [if_pos c5] at H
 have Aq : (Aa == 0) = true := beq_iff_eq.mpr c5
 have Ar : (Aa != 0) = false := bne_eq_false_iff_eq.mpr c5
 clear c5
 obtain ⟨Ad, A6, H⟩ := ob H
 try dsimp only at H
 by_cases c7 : (Ad.length : Int) > 1
 rw [if_pos c7] at H
 have As : decide (1 < (Ad.length : Int)) = true := decide_eq_true c7
 have At : decide (1 < Ad.length) = true := decide_eq_true (by omega)
 clear c7
 obtain rfl := Option.some.inj H
 rotate_left
 rw [if_neg c7] at H
 have As : decide (1 < (Ad.length : Int)) = false := decide_eq_false c7
 have At : decide (1 < Ad.length) = false := decide_eq_false (by omega)
 clear c7
 obtain rfl := Option.some.inj H
 rotate_left
 rw [if_neg c5] at H
 have Aq : (Aa == 0) = false := beq_eq_false_iff_ne.mpr c5
 have Ar : (Aa != 0) = true := bne_iff_ne.mpr c5
 obtain rfl := Option.some.inj H
 rotate_left
 all_goals
  go_enter Tryz.func15, Tryz.ntmps15
  go_wp2_with (first | ((with_reducible refine gd 4 rfl ?_); refine bx #[.int .i64 Ag, .int .i64 Ah, .int .i64 Ai] 30 ?_; intro Ae hg w8 Ab hb; replace Al := asd (Kd.V_below (Kd.V_elderB (by (with_reducible repeat (first | apply Kd.V_alloc | apply Kd.V_drewN | apply Kd.V_drew)); exact Al.out) Ae (Nat.le_of_eq hg.symm)) hb); have Ac := ngw0 hg HB; replace HB := bS0 HB hb; clear hb hg; obtain ⟨Au, Av, Aw, Ax, Ay, Az⟩ := bz3 Ab) | ((with_reducible refine gd 11 rfl ?_); refine Kd.N_lit (Kd.slice 46 k46) _ 32 ?hg (N' := 11) ?hd (xs := ([l2] : List (List (S46)))) (inner := [.slice A2 l2.length c2]) (ok := (fun k_ => (P2_ k_ ∨ w.heap.size ≤ k_) ∧ k_ ≠ Ae)) (okp := (fun k_ => (P2_ k_ ∨ w.heap.size ≤ k_) ∧ k_ ≠ Ae)) ?hr ?hp (fun _ hk => hk) ((show ∀ k_, w8.heap.size ≤ k_ → (fun k_ => (P2_ k_ ∨ w.heap.size ≤ k_) ∧ k_ ≠ Ae) k_ from fun k_ hk => ⟨(.inr (Nat.le_trans (bsz1 HB Ac) hk)), Kd.freshB (g := Ae) (o := .cells #[.int .i64 Ag, .int .i64 Ah, .int .i64 Ai] 30 (0, 0)) (bkp Ab) k_ hk⟩) _ (Nat.le_refl _)) (Below.refl _ _) (Nat.le_refl _) (by simp) ?_; (case hd => rfl); (case hg => rfl); (case hr => first | (go_simp; done) | (go_simp; rfl)); (case hp => exact (Reps.one (show Kd.FK (Kd.slice 46 k46) _ _ l2 [.slice A2 l2.length c2] from (Kd.FK_slice_mk (Kd.V_reads' (Kd.V_mono (ok' := (fun k_ => (P2_ k_ ∨ w.heap.size ≤ k_) ∧ k_ ≠ Ae)) (Al.out) (fun k_ hk => ⟨hk.1, hk.2⟩))).2.1 (Kd.V_F (Kd.V_mono (ok' := (fun k_ => (P2_ k_ ∨ w.heap.size ≤ k_) ∧ k_ ≠ Ae)) (Al.out) (fun k_ hk => ⟨hk.1, hk.2⟩))))) (Reps.none _ _))); intro v610 AA Ak hb hg_ hnew_; clear hg_ hnew_; (first | rw [← Am.out] at Ak | (simp only [Int.reduceToNat] at Ak; rw [← Am.out] at Ak)); replace Al := asd (Kd.V_elder' (by (with_reducible repeat (first | apply Kd.V_alloc | apply Kd.V_drewN | apply Kd.V_drew)); exact Al.out) (Kd.N_base Ak) hb); have Af := asd (Kd.N_lower Ak (bsz1 HB Ac)); replace Ab := bB Ab hb; replace HB := bS1 HB Ac hb; clear hb Ak; obtain ⟨Ao12, co12, eo12⟩ := Kd.N_slice Af.out; subst eo12) | ((with_reducible refine gate_callee (f := 30) rfl ?_); refine gl 12 Tryz.func30 #[.int .i64 a0, .agg #[.int .i64 Ag, .int .i64 Ah, .int .i64 Ai], .slice Ao12 An.length co12] ?_; (with_reducible refine (impl_groupCode.calls _ _ _ _ _ _ _ _ _ _ ?side1 ?side2 A4.out).mono ?_); (case side1 => exact ks (Kd.N_reads' Af.out).2.2); (case side2 => exact (Kd.N_reads' Af.out).2.1); rintro e AB ⟨rfl, hb⟩; refine ⟨_, rfl, ?_⟩; replace Al := asd (Kd.V_below (by (with_reducible repeat (first | apply Kd.V_alloc | apply Kd.V_drewN | apply Kd.V_drew)); exact Al.out) hb); replace Af := asd (Kd.N_below (by (with_reducible repeat (first | apply Kd.N_alloc | apply Kd.N_drewN | apply Kd.N_drew)); exact Af.out) hb); replace Ab := bB Ab hb; replace HB := bS1 HB Ac hb; (try clear hb)) | ((with_reducible refine gate_callee (f := 31) rfl ?_); refine gl 17 Tryz.func31 #[.slice A2 l2.length c2] ?_; (with_reducible refine (impl_shiftsOf.calls _ _ _ _ _ _ ?side1 ?side2 A6.out).mono ?_); (case side1 => exact ks (Kd.V_reads' Al.out).2.2); (case side2 => exact (Kd.V_reads' Al.out).2.1); rintro e AC ⟨v614, rfl, Ap, hb⟩; refine ⟨_, rfl, ?_⟩; replace Al := asd (Kd.V_elder' (by (with_reducible repeat (first | apply Kd.V_alloc | apply Kd.V_drewN | apply Kd.V_drew)); exact Al.out) (Kd.R_base Ap) hb); replace Af := asd (Kd.N_elder' (by (with_reducible repeat (first | apply Kd.N_alloc | apply Kd.N_drewN | apply Kd.N_drew)); exact Af.out) (Kd.R_base Ap) hb); have Ao := asd (Kd.R_lower (Kd.R_newM (M := fun k_ => (w.heap.size ≤ k_)) Ap (bsz1 HB Ac) (fun k_ h_ => h_)) (bsz1 HB Ac)); replace Ab := bB Ab hb; replace HB := bS1 HB Ac hb; (try clear hb); (try clear hb2); (try clear hk); (try clear hi); (try clear Ap); obtain ⟨Ao15, co15, eo15⟩ := Kd.R_slice Ao.out; subst eo15))
  go_ret
  exact er (bbw1 HB Ac)
def impl_Mat_det.f (Aa : Int) (Ab : Int) (Ac : Int) (Ad : Int) : Option (Int) := some (wrap64 ((wrap64 (Aa * Ad)) - (wrap64 (Ab * Ac))))
theorem impl_Mat_det.calls (Aa : Int) (Ab : Int) (Ac : Int) (Ad : Int) (r : Int) (w : World) (h : impl_Mat_det.f Aa Ab Ac Ad = some r) :
  Calls Tryz.prog 33 #[.agg #[.int .i64 Aa, .int .i64 Ab, .int .i64 Ac, .int .i64 Ad]] w fun e w' => e = .returned (.int .i64 r) ∧ Below w.heap.size w w' := by
 have hu42 := Tryz.underlying42
 have HB := asd (Below.refl w.heap.size w)
 have H : (some (wrap64 ((wrap64 (Aa * Ad)) - (wrap64 (Ab * Ac))))) = some r := h
 clear h
 obtain rfl := Option.some.inj H
 go_enter Tryz.func33, Tryz.ntmps33
 go_wp2_with (first | ((with_reducible refine gd 1 rfl ?_); refine bx #[.int .i64 Aa, .int .i64 Ab, .int .i64 Ac, .int .i64 Ad] 42 ?_; intro Ao hg w2 Ae hb; have Af := ngw0 hg HB; replace HB := bS0 HB hb; clear hb hg; obtain ⟨Ag, Ah, Ai, Aj, Ak, Al, Am, An⟩ := bz4 Ae))
 go_ret
 exact er (bbw1 HB Af)
mutual
def impl_Mat_order.j0 : Nat → Int → Bool → Int → Int → Int → Int → Option (Int)
 | 0, _, _, _, _, _, _ => none
 | k + 1, x3, Ch, Ad, Ae, Af, Ag => if Ch = true then (impl_Mat_order.j1 k x3 Ch Ad Ae Af Ag) else (impl_Mat_order.j1 k x3 (Ad == (-1) && (Ae == 0 && (Af == 0 && (Ag == (-1))))) Ad Ae Af Ag)
def impl_Mat_order.j1 : Nat → Int → Bool → Int → Int → Int → Int → Option (Int)
 | 0, _, _, _, _, _, _ => none
 | k + 1, x3, Ch, Ad, Ae, Af, Ag => if Ch = true then (some 2) else ((impl_Mat_det.f Ad Ae Af Ag).bind fun A8 => (if A8 = 1 then (impl_Mat_order.j2 k x3 (x3 == (-1)) Ad Ae Af Ag) else (impl_Mat_order.j2 k x3 false Ad Ae Af Ag)))
def impl_Mat_order.j2 : Nat → Int → Bool → Int → Int → Int → Int → Option (Int)
 | 0, _, _, _, _, _, _ => none
 | k + 1, x3, Cu, Ad, Ae, Af, Ag => if Cu = true then (some 3) else ((impl_Mat_det.f Ad Ae Af Ag).bind fun A9 => (if A9 = 1 then (impl_Mat_order.j3 k x3 (x3 == 0) Ad Ae Af Ag) else (impl_Mat_order.j3 k x3 false Ad Ae Af Ag)))
def impl_Mat_order.j3 : Nat → Int → Bool → Int → Int → Int → Int → Option (Int)
 | 0, _, _, _, _, _, _ => none
 | k + 1, x3, Cv, Ad, Ae, Af, Ag => if Cv = true then (some 4) else ((impl_Mat_det.f Ad Ae Af Ag).bind fun Ba => (if Ba = 1 then (if x3 = 1 then (some 6) else (some 0)) else (some 0)))
end
def impl_Mat_order.f (k : Nat) (Ab : Int) (Ah : Int) (Ai : Int) (Ac : Int) : Option (Int) := (impl_unit.f).bind fun Ak => (if (Ab == Ak.1 && (Ah == Ak.2.1 && (Ai == Ak.2.2.1 && (Ac == Ak.2.2.2)))) = true then (some 1) else ((impl_Mat_det.f Ab Ah Ai Ac).bind fun AK => (if AK = (-1) then (impl_Mat_order.j0 k (wrap64 (Ab + Ac)) ((wrap64 (Ab + Ac)) == 0) Ab Ah Ai Ac) else (impl_Mat_order.j0 k (wrap64 (Ab + Ac)) false Ab Ah Ai Ac))))
theorem impl_Mat_order.calls (k : Nat) (Ab : Int) (Ah : Int) (Ai : Int) (Ac : Int) (r : Int) (w : World) (h : impl_Mat_order.f k Ab Ah Ai Ac = some r) :
  Calls Tryz.prog 63 #[.agg #[.int .i64 Ab, .int .i64 Ah, .int .i64 Ai, .int .i64 Ac]] w fun e w' => e = .returned (.int .i64 r) ∧ Below w.heap.size w w' := by
 have hu42 := Tryz.underlying42
 have HB := asd (Below.refl w.heap.size w)
 have H : ((impl_unit.f).bind fun Ak => (if (Ab == Ak.1 && (Ah == Ak.2.1 && (Ai == Ak.2.2.1 && (Ac == Ak.2.2.2)))) = true then (some 1) else ((impl_Mat_det.f Ab Ah Ai Ac).bind fun AK => (if AK = (-1) then (impl_Mat_order.j0 k (wrap64 (Ab + Ac)) ((wrap64 (Ab + Ac)) == 0) Ab Ah Ai Ac) else (impl_Mat_order.j0 k (wrap64 (Ab + Ac)) false Ab Ah Ai Ac))))) = some r := h
 clear h
 obtain ⟨⟨Bb, Bc, Bd, Be⟩, A2, H⟩ := ob H
 try dsimp only at H
 by_cases c3 : (Ab == Bb && (Ah == Bc && (Ai == Bd && (Ac == Be)))) = true
 rw [if_pos c3] at H
 have Bx := c3
 (try (have By : decide (Ab = Bb && (Ah == Bc && (Ai == Bd && (Ac == Be)))) = true := by simpa using c3))
 (try (have Bz : (Ab == Bb && (Ah == Bc && (Ai == Bd && (Ac == Be)))) = true := by simpa using c3))
 clear c3
 obtain rfl := Option.some.inj H
 rotate_left
 rw [if_neg c3] at H
 have Bx : (Ab == Bb && (Ah == Bc && (Ai == Bd && (Ac == Be)))) = false := by simpa using c3
 (try (have By : decide (Ab = Bb && (Ah == Bc && (Ai == Bd && (Ac == Be)))) = false := by simpa using c3))
 (try (have Bz : (Ab == Bb && (Ah == Bc && (Ai == Bd && (Ac == Be)))) = false := by simpa using c3))
 (try (have Cw : ¬ (Ab = Bb && (Ah == Bc && (Ai == Bd && (Ac == Be)))) := by simpa using c3))
 clear c3
 rotate_left
 go_enter Tryz.func63, Tryz.ntmps63
 try go_wp2_with (first | ((with_reducible refine gd 1 rfl ?_); refine bx #[.int .i64 Ab, .int .i64 Ah, .int .i64 Ai, .int .i64 Ac] 42 ?_; intro A5 hg w4 Aa hb; have Aj := ngw0 hg HB; replace HB := bS0 HB hb; clear hb hg; obtain ⟨AL, AM, AN, AO, AP, AQ, AR, AS⟩ := bz4 Aa))
 rotate_left
 have Cr := Aside0.mk H
 clear H
 go_enter Tryz.func63, Tryz.ntmps63
 try go_wp2_with (first | ((with_reducible refine gd 1 rfl ?_); refine bx #[.int .i64 Ab, .int .i64 Ah, .int .i64 Ai, .int .i64 Ac] 42 ?_; intro A5 hg w4 Aa hb; have Aj := ngw0 hg HB; replace HB := bS0 HB hb; clear hb hg; obtain ⟨Al, Am, An, Ao, Ap, Aq, Ar, As⟩ := bz4 Aa))
 rotate_left
 all_goals
  replace Aa := asd (blk_drew Aa.out)
  replace HB := asd (below_drew1 HB.out)
  refine sh 4 (eb4 Aa) (fun hHeld => ?_)
  generalize w4.drew = w6 at Aa HB hHeld ⊢
  refine take_ (i := 0) (N := some 10) (v := ?_) (a' := ?_) (bT 4 1) rfl rfl (by kernel_rfl) (fun _ _ _ h => h) (Or.inl ⟨by rfl, ?_⟩) hHeld ?_ ?_
  rotate_left
  ·rintro w' ⟨s0, s1, s2, s3⟩
   go_simp
   with_reducible rfl
  rotate_left
  ·simp only [Act.put, sA, sB, sC, i64_w, i32_w]
   rfl
  refine one_ (i := 1) (N := some 11) (bT 4 2) rfl rfl (by kernel_rfl) (by decide) (fun K hK => ?_)
  refine gs Tryz.func62 #[] ?_
  with_reducible refine (impl_unit.calls _ _ _ _ _ A2.out).mono ?_
  rintro e w7 ⟨rfl, hb⟩
  refine ⟨_, rfl, ?_⟩
  replace Aa := bB Aa hb
  replace HB := bS1 HB Aj hb
  (try clear hb)
  (try clear hb2)
  (try clear hk)
  (try clear hi)
  refine hK.out _ _ (eb4 Aa).out (fun hHeld => ?_)
  clear hK K
  refine norm_ (a' := ?_) ?_ ?_
  rotate_left
  ·show Act.put _ (some 11) _ = _
   simp only [Act.put, sA, sB, sC, i64_w, i32_w]
   rfl
  refine pure_ (i := 2) (N := some 12) (v := ?_) (a' := ?_) (bT 4 3) rfl rfl (by kernel_rfl) (fun _ _ _ h => h) (Or.inl ⟨by rfl, ?_⟩) ?_ ?_
  rotate_left
  ·intro w'
   go_simp
   with_reducible rfl
  rotate_left
  ·simp only [Act.put, sA, sB, sC, i64_w, i32_w]
   rfl
  refine pure_ (i := 3) (N := some 9) (v := ?_) (a' := ?_) (bT 4 4) rfl rfl (by kernel_rfl) (fun _ _ _ h => h) (Or.inl ⟨by rfl, ?_⟩) ?_ ?_
  rotate_left
  ·intro w'
   go_simp
   with_reducible rfl
  rotate_left
  ·simp only [Act.put, sA, sB, sC, i64_w, i32_w]
   rfl
  refine done_ (by kernel_rfl) ?_
 ·try go_wp2
  go_ret
  exact er (bbw1 HB Aj)
 ·go_upto_region 4 with (fail)
  go_cut [13] (fun v13 wc => ∃ (kq : Nat) (Bf : Bool), v13 = .bool Bf ∧ Aside0 (impl_Mat_order.j0 kq (wrap64 (Ab + Ac)) Bf Ab Ah Ai Ac = some r) ∧ Aside0 (kq ≤ k) ∧ Aside0 (wc.heap[A5]? = some (.cells #[.int .i64 Ab, .int .i64 Ah, .int .i64 Ai, .int .i64 Ac] 42 (0, 0))) ∧ Aside0 (Below w.heap.size w wc))
  case first =>
   have H := Cr.out
   clear Cr
   obtain ⟨AK, Cx, H⟩ := ob H
   try dsimp only at H
   by_cases BA : AK = (-1)
   rw [if_pos BA] at H
   have AJ : (AK == (-1)) = true := beq_iff_eq.mpr BA
   have A6 : (AK != (-1)) = false := bne_eq_false_iff_eq.mpr BA
   clear BA
   rotate_left
   rw [if_neg BA] at H
   have AJ : (AK == (-1)) = false := beq_eq_false_iff_ne.mpr BA
   have A6 : (AK != (-1)) = true := bne_iff_ne.mpr BA
   rotate_left
   all_goals
    (first | rw [AJ] | (simp only [i64_w, i32_w]; rw [AJ]) | skip)
    have H' := Aside0.mk H
    clear H
   obtain ⟨At, Au, Av, Aw, Ax, Ay, Az, AA⟩ := bz4 Aa
   rotate_left
   obtain ⟨AB, AC, AD, AE, AF, AG, AH, AI⟩ := bz4 Aa
   rotate_left
   all_goals
    go_wp2_with (first | ((with_reducible refine gate_callee (f := 33) rfl ?_); refine gl 15 Tryz.func33 #[.agg #[.int .i64 Ab, .int .i64 Ah, .int .i64 Ai, .int .i64 Ac]] ?_; (with_reducible refine (impl_Mat_det.calls _ _ _ _ _ _ Cx.out).mono ?_); rintro e CE ⟨rfl, hb⟩; refine ⟨_, rfl, ?_⟩; replace Aa := bB Aa hb; replace HB := bS1 HB Aj hb; (try clear hb)))
    go_meet
   ·case rel => exact ⟨_, (((wrap64 (Ab + Ac)) == 0)), (by first | rfl | (simp; done) | (simp [*]; done)), H', ⟨by first | omega | exact Nat.le_refl _⟩, ⟨bkp Aa⟩, ⟨bbw1 HB Aj⟩⟩
   ·case rel => exact ⟨_, (false), (by first | rfl | (simp; done) | (simp [*]; done)), H', ⟨by first | omega | exact Nat.le_refl _⟩, ⟨bkp Aa⟩, ⟨bbw1 HB Aj⟩⟩
  case rest =>
   clear Cr
   try clear c3
   try clear Bx
   try clear By
   try clear Bz
   try clear BA
   try clear AJ
   try clear A6
   try clear Al
   try clear Am
   try clear An
   try clear Ao
   try clear At
   try clear Au
   try clear Av
   try clear Aw
   try clear AB
   try clear AC
   try clear AD
   try clear AE
   try clear AL
   try clear AM
   try clear AN
   try clear AO
   try clear Ap
   try clear Aq
   try clear Ar
   try clear As
   try clear Ax
   try clear Ay
   try clear Az
   try clear AA
   try clear AF
   try clear AG
   try clear AH
   try clear AI
   try clear AP
   try clear AQ
   try clear AR
   try clear AS
   obtain ⟨kq, Bf, rfl, HA, B8, Aa, HB⟩ := hcut
   cases kq with
   | zero => exact absurd HA.out (by simp [impl_Mat_order.j0])
   | succ Cy =>
    have H := HA.out
    clear HA
    simp only [impl_Mat_order.j0] at H
    have BW := Aside0.mk H
    clear H
    go_upto_if 13 with (fail)
    go_cut [13] (fun v13 wc => ∃ (kq : Nat) (AT : Bool), v13 = .bool AT ∧ Aside0 (impl_Mat_order.j1 kq (wrap64 (Ab + Ac)) AT Ab Ah Ai Ac = some r) ∧ Aside0 (kq ≤ Cy) ∧ Aside0 (wc.heap[A5]? = some (.cells #[.int .i64 Ab, .int .i64 Ah, .int .i64 Ai, .int .i64 Ac] 42 (0, 0))) ∧ Aside0 (Below w.heap.size w wc))
    case first =>
     have H := BW.out
     clear BW
     by_cases BX : Bf = true
     ·subst BX
      replace H := ifT H
      have H' := Aside0.mk H
      clear H
      go_wp2
      go_meet
      case rel => exact ⟨_, (true), (by first | rfl | (simp; done) | (simp [*]; done)), H', ⟨by have := B8.out; first | omega | exact Nat.le_refl _⟩, ⟨bkp Aa⟩, ⟨bbw1 HB Aj⟩⟩
     ·replace BX := Bool.eq_false_iff.mpr BX
      subst BX
      replace H := ifF H
      have H' := Aside0.mk H
      clear H
      obtain ⟨AU, AV, AW, AX, AY, AZ, A0, A1⟩ := bz4 Aa
      go_wp2
      go_meet
      case rel => exact ⟨_, ((Ab == (-1) && (Ah == 0 && (Ai == 0 && (Ac == (-1)))))), (by first | rfl | (simp; done) | (simp [*]; done)), H', ⟨by have := B8.out; first | omega | exact Nat.le_refl _⟩, ⟨bkp Aa⟩, ⟨bbw1 HB Aj⟩⟩
    case rest =>
     clear BW
     try clear c3
     try clear Bx
     try clear By
     try clear Bz
     try clear BA
     try clear AJ
     try clear A6
     try clear BX
     try clear Al
     try clear Am
     try clear An
     try clear Ao
     try clear At
     try clear Au
     try clear Av
     try clear Aw
     try clear AB
     try clear AC
     try clear AD
     try clear AE
     try clear AU
     try clear AV
     try clear AW
     try clear AX
     try clear AL
     try clear AM
     try clear AN
     try clear AO
     try clear Ap
     try clear Aq
     try clear Ar
     try clear As
     try clear Ax
     try clear Ay
     try clear Az
     try clear AA
     try clear AF
     try clear AG
     try clear AH
     try clear AI
     try clear AY
     try clear AZ
     try clear A0
     try clear A1
     try clear AP
     try clear AQ
     try clear AR
     try clear AS
     obtain ⟨kq, AT, rfl, HA, BC, Aa, HB⟩ := hcut
     cases kq with
     | zero => exact absurd HA.out (by simp [impl_Mat_order.j1])
     | succ Cs =>
      have H := HA.out
      clear HA
      simp only [impl_Mat_order.j1] at H
      by_cases Ca : AT = true
      ·subst Ca
       replace H := ifT H
       obtain rfl := Option.some.inj H
       go_wp2
       go_ret
       exact er (bbw1 HB Aj)
      ·replace Ca := Bool.eq_false_iff.mpr Ca
       subst Ca
       replace H := ifF H
       have BY := Aside0.mk H
       clear H
       go_upto_region 7 with (fail)
       go_cut [24] (fun v24 wc => ∃ (kq : Nat) (A3 : Bool), v24 = .bool A3 ∧ Aside0 (impl_Mat_order.j2 kq (wrap64 (Ab + Ac)) A3 Ab Ah Ai Ac = some r) ∧ Aside0 (kq ≤ Cs) ∧ Aside0 (wc.heap[A5]? = some (.cells #[.int .i64 Ab, .int .i64 Ah, .int .i64 Ai, .int .i64 Ac] 42 (0, 0))) ∧ Aside0 (Below w.heap.size w wc))
       case first =>
        have H := BY.out
        clear BY
        obtain ⟨A8, Cz, H⟩ := ob H
        try dsimp only at H
        by_cases BD : A8 = 1
        rw [if_pos BD] at H
        have A7 : (A8 == 1) = true := beq_iff_eq.mpr BD
        have BB : (A8 != 1) = false := bne_eq_false_iff_eq.mpr BD
        clear BD
        rotate_left
        rw [if_neg BD] at H
        have A7 : (A8 == 1) = false := beq_eq_false_iff_ne.mpr BD
        have BB : (A8 != 1) = true := bne_iff_ne.mpr BD
        rotate_left
        all_goals
         (first | rw [A7] | (simp only [i64_w, i32_w]; rw [A7]) | skip)
         have H' := Aside0.mk H
         clear H
        obtain ⟨Bg, Bh, Bi, Bj, Bk, Bl, Bm, Bn⟩ := bz4 Aa
        rotate_left
        obtain ⟨Bo, Bp, Bq, Br, Bs, Bt, Bu, Bv⟩ := bz4 Aa
        rotate_left
        all_goals
         go_wp2_with (first | ((with_reducible refine gate_callee (f := 33) rfl ?_); refine gl 26 Tryz.func33 #[.agg #[.int .i64 Ab, .int .i64 Ah, .int .i64 Ai, .int .i64 Ac]] ?_; (with_reducible refine (impl_Mat_det.calls _ _ _ _ _ _ Cz.out).mono ?_); rintro e CF ⟨rfl, hb⟩; refine ⟨_, rfl, ?_⟩; replace Aa := bB Aa hb; replace HB := bS1 HB Aj hb; (try clear hb)))
         go_meet
        ·case rel => exact ⟨_, (((wrap64 (Ab + Ac)) == (-1))), (by first | rfl | (simp; done) | (simp [*]; done)), H', ⟨by have := B8.out; have := BC.out; first | omega | exact Nat.le_refl _⟩, ⟨bkp Aa⟩, ⟨bbw1 HB Aj⟩⟩
        ·case rel => exact ⟨_, (false), (by first | rfl | (simp; done) | (simp [*]; done)), H', ⟨by have := B8.out; have := BC.out; first | omega | exact Nat.le_refl _⟩, ⟨bkp Aa⟩, ⟨bbw1 HB Aj⟩⟩
       case rest =>
        clear BY
        try clear c3
        try clear Bx
        try clear By
        try clear Bz
        try clear BA
        try clear AJ
        try clear A6
        try clear BX
        try clear Ca
        try clear BD
        try clear A7
        try clear BB
        try clear Al
        try clear Am
        try clear An
        try clear Ao
        try clear At
        try clear Au
        try clear Av
        try clear Aw
        try clear AB
        try clear AC
        try clear AD
        try clear AE
        try clear AU
        try clear AV
        try clear AW
        try clear AX
        try clear Bg
        try clear Bh
        try clear Bi
        try clear Bj
        try clear Bo
        try clear Bp
        try clear Bq
        try clear Br
        try clear AL
        try clear AM
        try clear AN
        try clear AO
        try clear Ap
        try clear Aq
        try clear Ar
        try clear As
        try clear Ax
        try clear Ay
        try clear Az
        try clear AA
        try clear AF
        try clear AG
        try clear AH
        try clear AI
        try clear AY
        try clear AZ
        try clear A0
        try clear A1
        try clear Bk
        try clear Bl
        try clear Bm
        try clear Bn
        try clear Bs
        try clear Bt
        try clear Bu
        try clear Bv
        try clear AP
        try clear AQ
        try clear AR
        try clear AS
        obtain ⟨kq, A3, rfl, HA, Cb, Aa, HB⟩ := hcut
        cases kq with
        | zero => exact absurd HA.out (by simp [impl_Mat_order.j2])
        | succ Ct =>
         have H := HA.out
         clear HA
         simp only [impl_Mat_order.j2] at H
         by_cases Cc : A3 = true
         ·subst Cc
          replace H := ifT H
          obtain rfl := Option.some.inj H
          go_wp2
          go_ret
          exact er (bbw1 HB Aj)
         ·replace Cc := Bool.eq_false_iff.mpr Cc
          subst Cc
          replace H := ifF H
          have BZ := Aside0.mk H
          clear H
          go_upto_region 9 with (fail)
          go_cut [32] (fun v32 wc => ∃ (kq : Nat) (A4 : Bool), v32 = .bool A4 ∧ Aside0 (impl_Mat_order.j3 kq (wrap64 (Ab + Ac)) A4 Ab Ah Ai Ac = some r) ∧ Aside0 (kq ≤ Ct) ∧ Aside0 (wc.heap[A5]? = some (.cells #[.int .i64 Ab, .int .i64 Ah, .int .i64 Ai, .int .i64 Ac] 42 (0, 0))) ∧ Aside0 (Below w.heap.size w wc))
          case first =>
           have H := BZ.out
           clear BZ
           obtain ⟨A9, CA, H⟩ := ob H
           try dsimp only at H
           by_cases BU : A9 = 1
           rw [if_pos BU] at H
           have Bw : (A9 == 1) = true := beq_iff_eq.mpr BU
           have BV : (A9 != 1) = false := bne_eq_false_iff_eq.mpr BU
           clear BU
           rotate_left
           rw [if_neg BU] at H
           have Bw : (A9 == 1) = false := beq_eq_false_iff_ne.mpr BU
           have BV : (A9 != 1) = true := bne_iff_ne.mpr BU
           rotate_left
           all_goals
            (first | rw [Bw] | (simp only [i64_w, i32_w]; rw [Bw]) | skip)
            have H' := Aside0.mk H
            clear H
           obtain ⟨BE, BF, BG, BH, BI, BJ, BK, BL⟩ := bz4 Aa
           rotate_left
           obtain ⟨BM, BN, BO, BP, BQ, BR, BS, BT⟩ := bz4 Aa
           rotate_left
           all_goals
            go_wp2_with (first | ((with_reducible refine gate_callee (f := 33) rfl ?_); refine gl 34 Tryz.func33 #[.agg #[.int .i64 Ab, .int .i64 Ah, .int .i64 Ai, .int .i64 Ac]] ?_; (with_reducible refine (impl_Mat_det.calls _ _ _ _ _ _ CA.out).mono ?_); rintro e CG ⟨rfl, hb⟩; refine ⟨_, rfl, ?_⟩; replace Aa := bB Aa hb; replace HB := bS1 HB Aj hb; (try clear hb)))
            go_meet
           ·case rel => exact ⟨_, (((wrap64 (Ab + Ac)) == 0)), (by first | rfl | (simp; done) | (simp [*]; done)), H', ⟨by have := B8.out; have := BC.out; have := Cb.out; first | omega | exact Nat.le_refl _⟩, ⟨bkp Aa⟩, ⟨bbw1 HB Aj⟩⟩
           ·case rel => exact ⟨_, (false), (by first | rfl | (simp; done) | (simp [*]; done)), H', ⟨by have := B8.out; have := BC.out; have := Cb.out; first | omega | exact Nat.le_refl _⟩, ⟨bkp Aa⟩, ⟨bbw1 HB Aj⟩⟩
          case rest =>
           clear BZ
           try clear c3
           try clear Bx
           try clear By
           try clear Bz
           try clear BA
           try clear AJ
           try clear A6
           try clear BX
           try clear Ca
           try clear BD
           try clear A7
           try clear BB
           try clear Cc
           try clear BU
           try clear Bw
           try clear BV
           try clear Al
           try clear Am
           try clear An
           try clear Ao
           try clear At
           try clear Au
           try clear Av
           try clear Aw
           try clear AB
           try clear AC
           try clear AD
           try clear AE
           try clear AU
           try clear AV
           try clear AW
           try clear AX
           try clear Bg
           try clear Bh
           try clear Bi
           try clear Bj
           try clear Bo
           try clear Bp
           try clear Bq
           try clear Br
           try clear BE
           try clear BF
           try clear BG
           try clear BH
           try clear BM
           try clear BN
           try clear BO
           try clear BP
           try clear AL
           try clear AM
           try clear AN
           try clear AO
           try clear Ap
           try clear Aq
           try clear Ar
           try clear As
           try clear Ax
           try clear Ay
           try clear Az
           try clear AA
           try clear AF
           try clear AG
           try clear AH
           try clear AI
           try clear AY
           try clear AZ
           try clear A0
           try clear A1
           try clear Bk
           try clear Bl
           try clear Bm
           try clear Bn
           try clear Bs
           try clear Bt
           try clear Bu
           try clear Bv
           try clear BI
           try clear BJ
           try clear BK
           try clear BL
           try clear BQ
           try clear BR
           try clear BS
           try clear BT
           try clear AP
           try clear AQ
           try clear AR
           try clear AS
           obtain ⟨kq, A4, rfl, HA, CB, Aa, HB⟩ := hcut
           cases kq with
           | zero => exact absurd HA.out (by simp [impl_Mat_order.j3])
           | succ CC =>
            have H := HA.out
            clear HA
            simp only [impl_Mat_order.j3] at H
            by_cases Ci : A4 = true
            subst Ci
            replace H := ifT H
            obtain rfl := Option.some.inj H
            rotate_left
            replace Ci := Bool.eq_false_iff.mpr Ci
            subst Ci
            replace H := ifF H
            obtain ⟨Ba, CD, H⟩ := ob H
            try dsimp only at H
            by_cases B0 : Ba = 1
            rw [if_pos B0] at H
            have Cd : (Ba == 1) = true := beq_iff_eq.mpr B0
            have Ce : (Ba != 1) = false := bne_eq_false_iff_eq.mpr B0
            clear B0
            by_cases B3 : (wrap64 (Ab + Ac)) = 1
            rw [if_pos B3] at H
            have Cf : ((wrap64 (Ab + Ac)) == 1) = true := beq_iff_eq.mpr B3
            have Cg : ((wrap64 (Ab + Ac)) != 1) = false := bne_eq_false_iff_eq.mpr B3
            clear B3
            obtain rfl := Option.some.inj H
            rotate_left
            rw [if_neg B3] at H
            have Cf : ((wrap64 (Ab + Ac)) == 1) = false := beq_eq_false_iff_ne.mpr B3
            have Cg : ((wrap64 (Ab + Ac)) != 1) = true := bne_iff_ne.mpr B3
            obtain rfl := Option.some.inj H
            rotate_left
            rw [if_neg B0] at H
            have Cd : (Ba == 1) = false := beq_eq_false_iff_ne.mpr B0
            have Ce : (Ba != 1) = true := bne_iff_ne.mpr B0
            obtain rfl := Option.some.inj H
            rotate_left
            ·go_wp2
             go_ret
             exact er (bbw1 HB Aj)
            rotate_left 3
            all_goals
             obtain ⟨Cj, Ck, Cl, Cm, Cn, Co, Cp, Cq⟩ := bz4 Aa
             go_wp2_with (first | ((with_reducible refine gate_callee (f := 33) rfl ?_); refine gl 42 Tryz.func33 #[.agg #[.int .i64 Ab, .int .i64 Ah, .int .i64 Ai, .int .i64 Ac]] ?_; (with_reducible refine (impl_Mat_det.calls _ _ _ _ _ _ CD.out).mono ?_); rintro e CH ⟨rfl, hb⟩; refine ⟨_, rfl, ?_⟩; replace Aa := bB Aa hb; replace HB := bS1 HB Aj hb; (try clear hb)))
             go_ret
             exact er (bbw1 HB Aj)
def impl_rotationOrder.l0 : Nat → Int → List (S46) → Int → Int → Option (Int)
 | 0, _, _, _, _ => none
 | k + 1, x3, x6, x7, x8 => if x8 < x7 then (if 0 ≤ x8 then (if x8 < (x6.length : Int) then ((impl_Mat_det.f ((rd_T46 x6 x8).f0.f0) ((rd_T46 x6 x8).f0.f1) ((rd_T46 x6 x8).f0.f2) ((rd_T46 x6 x8).f0.f3)).bind fun Ad => (if Ad = 1 then ((impl_Mat_order.f k ((rd_T46 x6 x8).f0.f0) ((rd_T46 x6 x8).f0.f1) ((rd_T46 x6 x8).f0.f2) ((rd_T46 x6 x8).f0.f3)).bind fun Ag => (impl_rotationOrder.l0 k (mx x3 Ag) x6 x7 (wrap64 (x8 + 1)))) else (impl_rotationOrder.l0 k x3 x6 x7 (wrap64 (x8 + 1))))) else (none)) else (none)) else (some x3)
def impl_rotationOrder.f (k : Nat) (l0 : List (S46)) : Option (Int) := impl_rotationOrder.l0 k 1 l0 (l0.length : Int) 0
theorem impl_rotationOrder.calls (k : Nat) (A0 : Option Addr) (c0 : Nat) (l0 : List (S46)) (r : Int) (w : World) (hr0 : Kd.C k46 w A0 l0.length l0) (hc0 : l0.length ≤ c0) (h : impl_rotationOrder.f k l0 = some r) :
  Calls Tryz.prog 32 #[.slice A0 l0.length c0] w fun e w' => e = .returned (.int .i64 r) ∧ Below w.heap.size w w' := by
 have hu46 := Tryz.underlying46
 have hu42 := Tryz.underlying42
 have HR0 := Aside0.mk hr0
 have A9 := Aside0.mk hc0
 clear hr0 hc0
 have HB := asd (Below.refl w.heap.size w)
 have H : (impl_rotationOrder.l0 k 1 l0 (l0.length : Int) 0) = some r := h
 clear h
 have H' := Aside0.mk H
 clear H
 go_enter Tryz.func32, Tryz.ntmps32
 go_wp2
 go_loopg [3, 8] k (fun kq v3 v8 w' => ∃ (Ae : Int) (Aa : Int), v3 = .int .i64 Ae ∧ v8 = .int .i64 Aa ∧ Aside0 (impl_rotationOrder.l0 kq Ae l0 (l0.length : Int) Aa = some r) ∧ Aside0 (kq ≤ k) ∧ Aside0 (Below w.heap.size w w'))
 case atStart => exact ⟨(1), (0), (by first | rfl | (simp; done) | (simp [*]; done)), (by first | rfl | (simp; done) | (simp [*]; done)), H', ⟨Nat.le_refl _⟩, ⟨bbw0 HB⟩⟩
 case round =>
  clear H'
  obtain ⟨Ae, Aa, rfl, rfl, HA, Ai, HB⟩ := hrel
  cases gk with
  | zero => exact absurd HA.out (by simp [impl_rotationOrder.l0])
  | succ k1 =>
   have H := HA.out
   clear HA
   simp only [impl_rotationOrder.l0] at H
   by_cases c2 : Aa < (l0.length : Int)
   rw [if_pos c2] at H
   have AZ := decide_eq_true c2
   clear c2
   by_cases c3 : 0 ≤ Aa
   rw [if_pos c3] at H
   have A6 := decide_eq_true c3
   clear c3
   by_cases c4 : Aa < (l0.length : Int)
   rw [if_pos c4] at H
   have A8 := decide_eq_true c4
   clear c4
   obtain ⟨Ad, A5, H⟩ := ob H
   try dsimp only at H
   by_cases c6 : Ad = 1
   rw [if_pos c6] at H
   have A1 : (Ad == 1) = true := beq_iff_eq.mpr c6
   have A2 : (Ad != 1) = false := bne_eq_false_iff_eq.mpr c6
   clear c6
   obtain ⟨Ag, A7, H⟩ := ob H
   try dsimp only at H
   obtain ⟨A3, Af⟩ : ∃ j_ : Int, (mx Ae Ag) = j_ := ⟨_, rfl⟩
   replace H : (impl_rotationOrder.l0 k1 A3 l0 (l0.length : Int) (wrap64 (Aa + 1))) = some r := by first | (rw [Af] at H; first | done | exact H) | (simp only [Af] at H ⊢; exact H)
   (try rw [Af] at A5)
   (try rw [Af] at A7)
   have A4 : (if Ae < Ag then Ag else Ae) = A3 := Af
   have H' := Aside0.mk H
   clear H
   rotate_left
   rw [if_neg c6] at H
   have A1 : (Ad == 1) = false := beq_eq_false_iff_ne.mpr c6
   have A2 : (Ad != 1) = true := bne_iff_ne.mpr c6
   have H' := Aside0.mk H
   clear H
   rotate_left
   ·rw [if_neg c4] at H
    exact absurd H (by simp)
   ·rw [if_neg c3] at H
    exact absurd H (by simp)
   rw [if_neg c2] at H
   have AZ := decide_eq_false c2
   clear c2
   obtain rfl := Option.some.inj H
   rotate_left
   rotate_left 2
   ·go_wp2
    go_ret
    exact er (bbw0 HB)
   all_goals
    obtain ⟨p626, q626, ad626, e626, Aj, Ak, Al, Am, An, Ao⟩ := at_T46x HR0.out HB Aa
    cases e626
   ·go_wp2_with (first | ((with_reducible refine gd 5 rfl ?_); refine bx #[.int .i64 0, .int .i64 0, .int .i64 0, .int .i64 0, .int .i64 0, .int .i64 0] 46 ?_; intro Ah hg w9 Ab hb; have Ac := ngw0 hg HB; replace HB := bS0 HB hb; clear hb hg; obtain ⟨Ap, Aq, Ar, As, At, Au, Av, Aw, Ax, Ay, Az, AA⟩ := bz6 Ab) | ((with_reducible refine gate_callee (f := 33) rfl ?_); refine gl 14 Tryz.func33 #[.agg #[.int .i64 ((rd_T46 l0 Aa).f0.f0), .int .i64 ((rd_T46 l0 Aa).f0.f1), .int .i64 ((rd_T46 l0 Aa).f0.f2), .int .i64 ((rd_T46 l0 Aa).f0.f3)]] ?_; (with_reducible refine (impl_Mat_det.calls _ _ _ _ _ _ A5.out).mono ?_); rintro e Ba ⟨rfl, hb⟩; refine ⟨_, rfl, ?_⟩; replace Ab := asd (blk_below (g := Ah) (o := .cells #[.int .i64 ((rd_T46 l0 Aa).f0.f0), .int .i64 ((rd_T46 l0 Aa).f0.f1), .int .i64 ((rd_T46 l0 Aa).f0.f2), .int .i64 ((rd_T46 l0 Aa).f0.f3), .int .i64 ((rd_T46 l0 Aa).f1.f0), .int .i64 ((rd_T46 l0 Aa).f1.f1)] 46 (0, 0)) (bq0 Ab) hb); replace HB := bS1 HB Ac hb; (try clear hb); obtain ⟨AB, AC, AD, AE, AF, AG, AH, AI, AJ, AK, AL, AM⟩ := bz6 Ab) | ((with_reducible refine gate_callee (f := 63) rfl ?_); refine gl 19 Tryz.func63 #[.agg #[.int .i64 ((rd_T46 l0 Aa).f0.f0), .int .i64 ((rd_T46 l0 Aa).f0.f1), .int .i64 ((rd_T46 l0 Aa).f0.f2), .int .i64 ((rd_T46 l0 Aa).f0.f3)]] ?_; (with_reducible refine (impl_Mat_order.calls _ _ _ _ _ _ _ A7.out).mono ?_); rintro e Bb ⟨rfl, hb⟩; refine ⟨_, rfl, ?_⟩; replace Ab := bB Ab hb; replace HB := bS1 HB Ac hb; (try clear hb)))
    go_roundg k1
    case measure => have := Ai.out; omega
    case rel => exact ⟨(A3), (wrap64 (Aa + 1)), (by first | rfl | (simp; done) | (simp only [← Af] <;> (first | rfl | simp)) | (simp [*]; done)), (by first | rfl | (simp; done) | (simp [*]; done)), H', ⟨by have := Ai.out; omega⟩, ⟨bbw1 HB Ac⟩⟩
   ·go_wp2_with (first | ((with_reducible refine gd 5 rfl ?_); refine bx #[.int .i64 0, .int .i64 0, .int .i64 0, .int .i64 0, .int .i64 0, .int .i64 0] 46 ?_; intro Ah hg Bc Ab hb; have Ac := ngw0 hg HB; replace HB := bS0 HB hb; clear hb hg; obtain ⟨AN, AO, AP, AQ, AR, AS, AT, AU, AV, AW, AX, AY⟩ := bz6 Ab) | ((with_reducible refine gate_callee (f := 33) rfl ?_); refine gl 14 Tryz.func33 #[.agg #[.int .i64 ((rd_T46 l0 Aa).f0.f0), .int .i64 ((rd_T46 l0 Aa).f0.f1), .int .i64 ((rd_T46 l0 Aa).f0.f2), .int .i64 ((rd_T46 l0 Aa).f0.f3)]] ?_; (with_reducible refine (impl_Mat_det.calls _ _ _ _ _ _ A5.out).mono ?_); rintro e Bd ⟨rfl, hb⟩; refine ⟨_, rfl, ?_⟩; replace Ab := asd (blk_below (g := Ah) (o := .cells #[.int .i64 ((rd_T46 l0 Aa).f0.f0), .int .i64 ((rd_T46 l0 Aa).f0.f1), .int .i64 ((rd_T46 l0 Aa).f0.f2), .int .i64 ((rd_T46 l0 Aa).f0.f3), .int .i64 ((rd_T46 l0 Aa).f1.f0), .int .i64 ((rd_T46 l0 Aa).f1.f1)] 46 (0, 0)) (bq0 Ab) hb); replace HB := bS1 HB Ac hb; (try clear hb)))
    go_roundg k1
    case measure => have := Ai.out; omega
    case rel => exact ⟨(Ae), (wrap64 (Aa + 1)), (by first | rfl | (simp; done) | (simp [*]; done)), (by first | rfl | (simp; done) | (simp [*]; done)), H', ⟨by have := Ai.out; omega⟩, ⟨bbw1 HB Ac⟩⟩
def impl_Lattice_multipleIn.l0 : Nat → Int → Int → Int → Int → Int → Int → Int → Option (Int × Int)
 | 0, _, _, _, _, _, _, _ => none
 | k + 1, AB, AC, AD, AE, AF, Az, AA => (impl_Lattice_has.f AB AC AD Az AA).bind fun AO => (if AO = true then (some (Az, AA)) else ((impl_Vec_add.f Az AA AE AF).bind fun AM => (impl_Lattice_multipleIn.l0 k AB AC AD AE AF AM.1 AM.2)))
def impl_Lattice_multipleIn.f (k : Nat) (Aq : Int) (Ar : Int) (As : Int) (Ao : Int) (Ap : Int) : Option (Int × Int) := impl_Lattice_multipleIn.l0 k Aq Ar As Ao Ap Ao Ap
theorem impl_Lattice_multipleIn.calls (k : Nat) (Aq : Int) (Ar : Int) (As : Int) (Ao : Int) (Ap : Int) (r1 : Int) (r2 : Int) (w : World) (h : impl_Lattice_multipleIn.f k Aq Ar As Ao Ap = some (r1, r2)) :
  Calls Tryz.prog 34 #[.agg #[.int .i64 Aq, .int .i64 Ar, .int .i64 As], .agg #[.int .i64 Ao, .int .i64 Ap]] w fun e w' => e = .returned (.agg #[.int .i64 r1, .int .i64 r2]) ∧ Below w.heap.size w w' := by
 have hu30 := Tryz.underlying30
 have hu44 := Tryz.underlying44
 have HB := asd (Below.refl w.heap.size w)
 have H : (impl_Lattice_multipleIn.l0 k Aq Ar As Ao Ap Ao Ap) = some (r1, r2) := h
 clear h
 have H' := Aside0.mk H
 clear H
 go_enter Tryz.func34, Tryz.ntmps34
 go_wp2_with (first | ((with_reducible refine gd 2 rfl ?_); refine bx #[.int .i64 Aq, .int .i64 Ar, .int .i64 As] 30 ?_; intro AT hg w3 Aa hb; have Ag := ngw0 hg HB; replace HB := bS0 HB hb; clear hb hg) | ((with_reducible refine gd 3 rfl ?_); refine bx #[.int .i64 Ao, .int .i64 Ap] 44 ?_; intro AU hg w4 Ab hb; have Ak := ngw1 hg HB Ag; replace HB := bS1 HB Ag hb; have At := nlt hg Aa; have Au := nsy (nlt hg Aa); replace Aa := bB Aa hb; clear hb hg) | ((with_reducible refine gd 4 rfl ?_); refine bx #[.int .i64 0, .int .i64 0] 44 ?_; intro AN hg w5 Ae hb; have An := ngw2 hg HB Ag Ak; replace HB := bS2 HB Ag Ak hb; have AG := nlt hg Aa; have AH := nsy (nlt hg Aa); replace Aa := bB Aa hb; have Al := nlt hg Ab; have Am := nsy (nlt hg Ab); replace Ab := bB Ab hb; clear hb hg; have BP := Au.out; have BQ := At.out; have BR := Al.out; have BS := Am.out; obtain ⟨AP, AQ, AR, AS⟩ := bz2 Ab) | ((with_reducible refine gd 5 rfl ?_); refine bx #[.int .i64 0, .int .i64 0] 44 ?_; intro AV hg w9 Af hb; have Av := ngw3 hg HB Ag Ak An; replace HB := bS3 HB Ag Ak An hb; have Ah := nlt hg Aa; have Aw := nsy (nlt hg Aa); replace Aa := bB Aa hb; have Ai := nlt hg Ab; have Ax := nsy (nlt hg Ab); replace Ab := bB Ab hb; have Aj := nlt hg Ae; have Ay := nsy (nlt hg Ae); replace Ae := bB Ae hb; clear hb hg; have Bt := Aw.out; have Bu := Ah.out; have Bv := Ax.out; have Bw := Ai.out; have Bx := Ay.out; have By := Aj.out; obtain ⟨AI, AJ, AK, AL⟩ := bz2 Af))
 go_loopg [] k (fun kq w' => ∃ (Ac : Int) (Ad : Int), Aside0 (impl_Lattice_multipleIn.l0 kq Aq Ar As Ao Ap Ac Ad = some (r1, r2)) ∧ Aside0 (kq ≤ k) ∧ Aside0 (w'.heap[AT]? = some (.cells #[.int .i64 Aq, .int .i64 Ar, .int .i64 As] 30 (0, 0))) ∧ Aside0 (w'.heap[AU]? = some (.cells #[.int .i64 Ao, .int .i64 Ap] 44 (0, 0))) ∧ Aside0 (w'.heap[AN]? = some (.cells #[.int .i64 0, .int .i64 0] 44 (0, 0))) ∧ Aside0 (w'.heap[AV]? = some (.cells #[.int .i64 Ac, .int .i64 Ad] 44 (0, 0))) ∧ Aside0 (Below w.heap.size w w'))
 case atStart => exact ⟨(Ao), (Ap), H', ⟨Nat.le_refl _⟩, ⟨bq1 Aa Ah⟩, ⟨bq1 Ab Ai⟩, ⟨bq1 Ae Aj⟩, ⟨bq0 Af⟩, ⟨bbw4 HB Ag Ak An Av⟩⟩
 case round =>
  clear H'
  try clear AI
  try clear AJ
  try clear AP
  try clear AQ
  try clear AK
  try clear AL
  try clear AR
  try clear AS
  obtain ⟨Ac, Ad, HA, Bz, Aa, Ab, Ae, Af, HB⟩ := hrel
  cases gk with
  | zero => exact absurd HA.out (by simp [impl_Lattice_multipleIn.l0])
  | succ k1 =>
   have H := HA.out
   clear HA
   simp only [impl_Lattice_multipleIn.l0] at H
   obtain ⟨AO, BA, H⟩ := ob H
   try dsimp only at H
   by_cases AW : AO = true
   subst AW
   replace H := ifT H
   rotate_left
   replace AW := Bool.eq_false_iff.mpr AW
   subst AW
   replace H := ifF H
   obtain ⟨⟨Br, Bs⟩, BT, H⟩ := ob H
   try dsimp only at H
   have H' := Aside0.mk H
   clear H
   rotate_left
   simp only [Option.some.injEq, Prod.mk.injEq] at H
   obtain ⟨rfl, rfl⟩ := H
   rotate_left 2
   all_goals
    have BB := At.out
    have BC := Au.out
    have BD := AG.out
    have BE := AH.out
    have BF := Ah.out
    have BG := Aw.out
    obtain ⟨AX, AY, AZ, A0, A1, A2⟩ := bz3 Aa
    have BH := Ax.out
    have BI := Ai.out
    have BJ := Ay.out
    have BK := Aj.out
    obtain ⟨A3, A4, A5, A6⟩ := bz2 Af
   ·go_wp2_with (first | ((with_reducible refine gate_callee (f := 64) rfl ?_); refine gl 9 Tryz.func64 #[.agg #[.int .i64 Aq, .int .i64 Ar, .int .i64 As], .agg #[.int .i64 Ac, .int .i64 Ad]] ?_; (with_reducible refine (impl_Lattice_has.calls _ _ _ _ _ _ _ BA.out).mono ?_); rintro e BU ⟨rfl, hb⟩; refine ⟨_, rfl, ?_⟩; replace Aa := bB Aa hb; replace Ab := bB Ab hb; replace Ae := bB Ae hb; replace Af := bB Af hb; replace HB := bS4 HB Ag Ak An Av hb; (try clear hb); obtain ⟨A7, A8, A9, Ba⟩ := bz2 Af; have BL := Am.out; have BM := Al.out; obtain ⟨Bb, Bc, Bd, Be⟩ := bz2 Ae))
    refine bodyPost_ret (results_cell_row rfl _ _ AN 44 #[.int .i64 Ac, .int .i64 Ad] (0, 0) _ rfl (bq0 Ae) Tryz.underlying44 rfl (by kernel_rfl)) rfl ?_
    exact er (bbw4 HB Ag Ak An Av)
   ·go_wp2_with (first | ((with_reducible refine gate_callee (f := 64) rfl ?_); refine gl 9 Tryz.func64 #[.agg #[.int .i64 Aq, .int .i64 Ar, .int .i64 As], .agg #[.int .i64 Ac, .int .i64 Ad]] ?_; (with_reducible refine (impl_Lattice_has.calls _ _ _ _ _ _ _ BA.out).mono ?_); rintro e BV ⟨rfl, hb⟩; refine ⟨_, rfl, ?_⟩; replace Aa := bB Aa hb; replace Ab := bB Ab hb; replace Ae := bB Ae hb; replace Af := bB Af hb; replace HB := bS4 HB Ag Ak An Av hb; (try clear hb); obtain ⟨Bf, Bg, Bh, Bi⟩ := bz2 Af; have BN := Al.out; have BO := Am.out; obtain ⟨Bj, Bk, Bl, Bm⟩ := bz2 Ab) | ((with_reducible refine gate_callee (f := 65) rfl ?_); refine gl 13 Tryz.func65 #[.agg #[.int .i64 Ac, .int .i64 Ad], .agg #[.int .i64 Ao, .int .i64 Ap]] ?_; (with_reducible refine (impl_Vec_add.calls _ _ _ _ _ _ _ BT.out).mono ?_); rintro e BW ⟨rfl, hb⟩; refine ⟨_, rfl, ?_⟩; replace Aa := bB Aa hb; replace Ab := bB Ab hb; replace Ae := bB Ae hb; replace Af := bB Af hb; replace HB := bS4 HB Ag Ak An Av hb; (try clear hb); obtain ⟨Bn, Bo, Bp, Bq⟩ := bz2 Af))
    go_roundg k1
    case measure => have := Bz.out; omega
    case rel => exact ⟨(Br), (Bs), H', ⟨by have := Bz.out; omega⟩, ⟨bq1 Aa Ah⟩, ⟨bq1 Ab Ai⟩, ⟨bq1 Ae Aj⟩, ⟨bq0 Af⟩, ⟨bbw4 HB Ag Ak An Av⟩⟩
def impl_Vec_times.f (Ab : Int) (Ac : Int) (a1 : Int) : Option (Int × Int) := some (wrap64 (a1 * Ab), wrap64 (a1 * Ac))
theorem impl_Vec_times.calls (Ab : Int) (Ac : Int) (a1 : Int) (r1 : Int) (r2 : Int) (w : World) (h : impl_Vec_times.f Ab Ac a1 = some (r1, r2)) :
  Calls Tryz.prog 38 #[.agg #[.int .i64 Ab, .int .i64 Ac], .int .i64 a1] w fun e w' => e = .returned (.agg #[.int .i64 r1, .int .i64 r2]) ∧ Below w.heap.size w w' := by
 have hu44 := Tryz.underlying44
 have HB := asd (Below.refl w.heap.size w)
 have H : (some (wrap64 (a1 * Ab), wrap64 (a1 * Ac))) = some (r1, r2) := h
 clear h
 simp only [Option.some.injEq, Prod.mk.injEq] at H
 obtain ⟨rfl, rfl⟩ := H
 go_enter Tryz.func38, Tryz.ntmps38
 go_wp2_with (first | ((with_reducible refine gd 2 rfl ?_); refine bx #[.int .i64 Ab, .int .i64 Ac] 44 ?_; intro Ar hg w3 Aa hb; have Af := ngw0 hg HB; replace HB := bS0 HB hb; clear hb hg) | ((with_reducible refine gd 4 rfl ?_); refine bx #[.int .i64 0, .int .i64 0] 44 ?_; intro Ah hg w4 Ag hb; have Ai := ngw1 hg HB Af; replace HB := bS1 HB Af hb; have Ad := nlt hg Aa; have Ae := nsy (nlt hg Aa); replace Aa := bB Aa hb; clear hb hg; have As := Ad.out; have At := Ae.out; obtain ⟨Aj, Ak, Al, Am⟩ := bz2 Aa; obtain ⟨An, Ao, Ap, Aq⟩ := bz2 Ag))
 refine bodyPost_ret (results_cell_row rfl _ _ Ah 44 #[.int .i64 (wrap64 (a1 * Ab)), .int .i64 (wrap64 (a1 * Ac))] (0, 0) _ rfl (bq0 Ag) Tryz.underlying44 rfl (by kernel_rfl)) rfl ?_
 exact er (bbw2 HB Af Ai)
def impl_Mat_isReflection.f (k : Nat) (Ab : Int) (Ac : Int) (Ad : Int) (Ae : Int) : Option (Bool) := (impl_Mat_det.f Ab Ac Ad Ae).bind fun Ag => (if Ag = (-1) then ((impl_Mat_order.f k Ab Ac Ad Ae).bind fun Ah => (some (Ah == 2))) else (some false))
theorem impl_Mat_isReflection.calls (k : Nat) (Ab : Int) (Ac : Int) (Ad : Int) (Ae : Int) (r : Bool) (w : World) (h : impl_Mat_isReflection.f k Ab Ac Ad Ae = some r) :
  Calls Tryz.prog 70 #[.agg #[.int .i64 Ab, .int .i64 Ac, .int .i64 Ad, .int .i64 Ae]] w fun e w' => e = .returned (.bool r) ∧ Below w.heap.size w w' := by
 have hu42 := Tryz.underlying42
 have HB := asd (Below.refl w.heap.size w)
 have H : ((impl_Mat_det.f Ab Ac Ad Ae).bind fun Ag => (if Ag = (-1) then ((impl_Mat_order.f k Ab Ac Ad Ae).bind fun Ah => (some (Ah == 2))) else (some false))) = some r := h
 clear h
 obtain ⟨Ag, A2, H⟩ := ob H
 try dsimp only at H
 by_cases c3 : Ag = (-1)
 ·rw [if_pos c3] at H
  have Ar : (Ag == (-1)) = true := beq_iff_eq.mpr c3
  have As : (Ag != (-1)) = false := bne_eq_false_iff_eq.mpr c3
  clear c3
  obtain ⟨Ah, A4, H⟩ := ob H
  try dsimp only at H
  obtain rfl := Option.some.inj H
  go_enter Tryz.func70, Tryz.ntmps70
  go_wp2_with (first | ((with_reducible refine gd 1 rfl ?_); refine bx #[.int .i64 Ab, .int .i64 Ac, .int .i64 Ad, .int .i64 Ae] 42 ?_; intro Ai hg w5 Aa hb; have Af := ngw0 hg HB; replace HB := bS0 HB hb; clear hb hg; obtain ⟨At, Au, Av, Aw, Ax, Ay, Az, AA⟩ := bz4 Aa) | ((with_reducible refine gate_callee (f := 33) rfl ?_); refine gl 4 Tryz.func33 #[.agg #[.int .i64 Ab, .int .i64 Ac, .int .i64 Ad, .int .i64 Ae]] ?_; (with_reducible refine (impl_Mat_det.calls _ _ _ _ _ _ A2.out).mono ?_); rintro e w7 ⟨rfl, hb⟩; refine ⟨_, rfl, ?_⟩; replace Aa := bB Aa hb; replace HB := bS1 HB Af hb; (try clear hb); obtain ⟨AB, AC, AD, AE, AF, AG, AH, AI⟩ := bz4 Aa) | (go_at_call 63; (with_reducible refine (impl_Mat_order.calls _ _ _ _ _ _ _ A4.out).mono ?_); rintro e w9 ⟨rfl, hb⟩; replace Aa := bB Aa hb; replace HB := bS1 HB Af hb; (try clear hb)))
  go_ret
  exact er (bbw1 HB Af)
 ·rw [if_neg c3] at H
  have Ar : (Ag == (-1)) = false := beq_eq_false_iff_ne.mpr c3
  have As : (Ag != (-1)) = true := bne_iff_ne.mpr c3
  obtain rfl := Option.some.inj H
  go_enter Tryz.func70, Tryz.ntmps70
  go_wp2_with (first | ((with_reducible refine gd 1 rfl ?_); refine bx #[.int .i64 Ab, .int .i64 Ac, .int .i64 Ad, .int .i64 Ae] 42 ?_; intro Ai hg AJ Aa hb; have Af := ngw0 hg HB; replace HB := bS0 HB hb; clear hb hg; obtain ⟨Aj, Ak, Al, Am, An, Ao, Ap, Aq⟩ := bz4 Aa) | ((with_reducible refine gate_callee (f := 33) rfl ?_); refine gl 4 Tryz.func33 #[.agg #[.int .i64 Ab, .int .i64 Ac, .int .i64 Ad, .int .i64 Ae]] ?_; (with_reducible refine (impl_Mat_det.calls _ _ _ _ _ _ A2.out).mono ?_); rintro e w12 ⟨rfl, hb⟩; refine ⟨_, rfl, ?_⟩; replace Aa := bB Aa hb; replace HB := bS1 HB Af hb; (try clear hb)))
  go_ret
  exact er (bbw1 HB Af)
def impl_gcd.l0 : Nat → Int → Int → Option (Int)
 | 0, _, _ => none
 | k + 1, x0, x1 => if x1 = 0 then (some (mx x0 (wrap64 (-x0)))) else (impl_gcd.l0 k x1 (Int.tmod x0 x1))
def impl_gcd.f (k : Nat) (a0 : Int) (a1 : Int) : Option (Int) := impl_gcd.l0 k a0 a1
theorem impl_gcd.calls (k : Nat) (a0 : Int) (a1 : Int) (r : Int) (w : World) (h : impl_gcd.f k a0 a1 = some r) :
  Calls Tryz.prog 73 #[.int .i64 a0, .int .i64 a1] w fun e w' => e = .returned (.int .i64 r) ∧ Below w.heap.size w w' := by
 have HB := asd (Below.refl w.heap.size w)
 have H : (impl_gcd.l0 k a0 a1) = some r := h
 clear h
 have H' := Aside0.mk H
 clear H
 go_enter Tryz.func73, Tryz.ntmps73
 go_wp2
 repeat (go_quiet (fail); try go_wp2)
 go_loopg [0, 1] k (fun kq v0 v1 w' => ∃ (Aa : Int) (Ab : Int), v0 = .int .i64 Aa ∧ v1 = .int .i64 Ab ∧ Aside0 (impl_gcd.l0 kq Aa Ab = some r) ∧ Aside0 (kq ≤ k) ∧ Aside0 (Below w.heap.size w w'))
 case atStart => exact ⟨(a0), (a1), (by first | rfl | (simp; done) | (simp [*]; done)), (by first | rfl | (simp; done) | (simp [*]; done)), H', ⟨Nat.le_refl _⟩, ⟨bbw0 HB⟩⟩
 case round =>
  clear H'
  obtain ⟨Aa, Ab, rfl, rfl, HA, Af, HB⟩ := hrel
  cases gk with
  | zero => exact absurd HA.out (by simp [impl_gcd.l0])
  | succ k1 =>
   have H := HA.out
   clear HA
   simp only [impl_gcd.l0] at H
   by_cases c3 : Ab = 0
   ·rw [if_pos c3] at H
    have Ad : (Ab == 0) = true := beq_iff_eq.mpr c3
    have Ae : (Ab != 0) = false := bne_eq_false_iff_eq.mpr c3
    clear c3
    obtain ⟨Ag, Ac⟩ : ∃ j_ : Int, (mx Aa (wrap64 (-Aa))) = j_ := ⟨_, rfl⟩
    replace H : (some Ag) = some r := by first | (rw [Ac] at H; first | done | exact H) | (simp only [Ac] at H ⊢; exact H)
    have Ah : (if Aa < (wrap64 (-Aa)) then (wrap64 (-Aa)) else Aa) = Ag := Ac
    obtain rfl := Option.some.inj H
    go_wp2
    repeat (go_quiet (fail); try go_wp2)
    go_ret
    exact ⟨by first | rfl | (simp [errW_none, errW_some] <;> rfl) | (simp only [← Ac]; first | rfl | (simp [errW_none, errW_some] <;> rfl)) | (simp [*, errW_none, errW_some] <;> rfl), bbw0 HB⟩
   ·rw [if_neg c3] at H
    have Ad : (Ab == 0) = false := beq_eq_false_iff_ne.mpr c3
    have Ae : (Ab != 0) = true := bne_iff_ne.mpr c3
    have H' := Aside0.mk H
    clear H
    go_wp2
    repeat (go_quiet (fail); try go_wp2)
    go_roundg k1
    case measure => have := Af.out; omega
    case rel => exact ⟨(Ab), (Int.tmod Aa Ab), (by first | rfl | (simp; done) | (simp [*]; done)), (by first | rfl | (simp; done) | (simp [*]; done)), H', ⟨by have := Af.out; omega⟩, ⟨bbw0 HB⟩⟩
def impl_isCoordinate.f (a0 : Int) : Option (Bool) := (impl_within.f a0 (-1000) 1000).bind fun Aa => (some Aa)
theorem impl_isCoordinate.calls (a0 : Int) (r : Bool) (w : World) (h : impl_isCoordinate.f a0 = some r) :
  Calls Tryz.prog 119 #[.int .i64 a0] w fun e w' => e = .returned (.bool r) ∧ Drawn0 w w' := by
 have H : ((impl_within.f a0 (-1000) 1000).bind fun Aa => (some Aa)) = some r := h
 clear h
 obtain ⟨Aa, A2, H⟩ := ob H
 try dsimp only at H
 obtain rfl := Option.some.inj H
 go_enter Tryz.func119, Tryz.ntmps119
 go_wp2_with (first | ((with_reducible refine gate_callee (f := 107) rfl ?_); refine gl 4 Tryz.func107 #[.int .i64 a0, .int .i64 (-1000), .int .i64 1000] ?_; (with_reducible refine (impl_within.calls _ _ _ _ _ A2.out).mono ?_); rintro e w' ⟨rfl, ⟨nd, rfl⟩⟩; refine ⟨_, rfl, ?_⟩))
 go_ret
 exact ⟨by first | rfl | (simp; done) | (simp [*]; done), by repeat (first | exact Drawn0.refl _ | apply Drawn0.step)⟩
end Go.Proofs.YtfmjboloeabjmaaGreat.PA
