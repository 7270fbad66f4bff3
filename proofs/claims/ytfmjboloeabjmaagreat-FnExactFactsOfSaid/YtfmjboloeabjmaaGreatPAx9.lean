import Derived.Test.YtfmjboloeabjmaaGreatPAx0
import Derived.Test.YtfmjboloeabjmaaGreatPAx2
import Derived.Test.YtfmjboloeabjmaaGreatPAx3
import Derived.Test.YtfmjboloeabjmaaGreatPAx5
import Derived.Test.YtfmjboloeabjmaaGreatPAx6
import Derived.Test.YtfmjboloeabjmaaGreatPAx7
import Derived.Test.YtfmjboloeabjmaaGreatPAx8
namespace Go.Proofs.YtfmjboloeabjmaaGreat.PA
open Go.RowKit Go.Proofs.YtfmjboloeabjmaaGreatW.PrintWords Go.Proofs.YtfmjboloeabjmaaGreatW.PrintLast Go.Proofs.YtfmjboloeabjmaaGreatW.PrintMore
attribute [local go_sem] max2_int min2_int max_two min_two max_three min_three max_four min_four   -- for this text's walks alone
set_option linter.unusedVariables false
set_option maxHeartbeats 8000000
set_option maxRecDepth 100000
set_option linter.unusedSimpArgs false
attribute [local go_sem high] eqA42
def spec_l07Code.f (k : Nat) (a0 : Int) (Ab : Int) (Ac : Int) (Ad : Int) (l2 : List (S46)) (a3 : Bool) : Option (Int) := if a3 = true then ((spec_IsGroup.f k a0 Ab Ac Ad l2).bind fun Ae => ((spec_l06Code.f a0 Ab Ac Ad Ae).bind fun Ag => (some Ag))) else ((spec_l06Code.f a0 Ab Ac Ad false).bind fun Ah => (some Ah))
def spec_l07Code.T1 : Bool × List (List Nat × List Nat) := (true, [([], []), ([], []), ([], []), ([2], [2]), ([3], [3]), ([3], [3]), ([3], [3]), ([4, 5, 6, 3, 3], [3, 4, 5, 6]), ([3, 7], [3, 7]), ([0, 1, 8, 7], [0, 1, 8]), ([9, 9, 0, 1, 2, 3, 4, 5, 6, 7, 8, 9], [9])])
def spec_l07Code.B1 : List Nat := [0, 0, 0, 4, 12, 12, 12, 124, 252, 511, 1023]
theorem spec_l07Code.tab1 : rtab .any (opsOf Tryz.f11 1) = spec_l07Code.T1 := by kernel_rfl
theorem spec_l07Code.bits1 : waitsOk spec_l07Code.T1.2 spec_l07Code.B1 = true := by kernel_rfl
theorem spec_l07Code.calls (k : Nat) (a0 : Int) (Ab : Int) (Ac : Int) (Ad : Int) (A2 : Option Addr) (c2 : Nat) (l2 : List (S46)) (a3 : Bool) (r : Int) (w : World) (hr2 : Kd.C k46 w A2 l2.length l2) (hc2 : l2.length ≤ c2) (h : spec_l07Code.f k a0 Ab Ac Ad l2 a3 = some r) :
  Calls Tryz.prog 11 #[.int .i64 a0, .agg #[.int .i64 Ab, .int .i64 Ac, .int .i64 Ad], .slice A2 l2.length c2, .bool a3] w fun e w' => e = .returned (.int .i64 r) ∧ Below w.heap.size w w' := by
 have hu30 := Tryz.underlying30
 have HR2 := Aside0.mk hr2
 have Aj := Aside0.mk hc2
 clear hr2 hc2
 have HB := asd (Below.refl w.heap.size w)
 have H : (if a3 = true then ((spec_IsGroup.f k a0 Ab Ac Ad l2).bind fun Ae => ((spec_l06Code.f a0 Ab Ac Ad Ae).bind fun Ag => (some Ag))) else ((spec_l06Code.f a0 Ab Ac Ad false).bind fun Ah => (some Ah))) = some r := h
 clear h
 by_cases c5 : a3 = true
 subst c5
 replace H := ifT H
 obtain ⟨Ae, A6, H⟩ := ob H
 try dsimp only at H
 obtain ⟨Ag, A7, H⟩ := ob H
 try dsimp only at H
 obtain rfl := Option.some.inj H
 rotate_left
 replace c5 := Bool.eq_false_iff.mpr c5
 subst c5
 replace H := ifF H
 obtain ⟨Ah, A7, H⟩ := ob H
 try dsimp only at H
 obtain rfl := Option.some.inj H
 rotate_left
 all_goals
  go_enter Tryz.func11, Tryz.ntmps11
  try go_wp2_with (first | ((with_reducible refine gd 5 rfl ?_); refine bx #[.int .i64 Ab, .int .i64 Ac, .int .i64 Ad] 30 ?_; intro Ai hg w8 Aa hb; have Af := ngw0 hg HB; replace HB := bS0 HB hb; clear hb hg))
  replace Aa := asd (blk_drew Aa.out)
  replace HB := asd (below_drew1 HB.out)
  refine sh 11 (eb3 Aa) (fun hHeld => ?_); refine with_tabW spec_l07Code.tab1 spec_l07Code.bits1 (fun HT_ HW_ => ?_)
  generalize w8.drew = w9 at Aa HB hHeld ⊢
  refine pu 0 (some 9) (bT 11 1) HT_ ?_
  refine pu 2 (some 11) (bs 11 5) HT_ ?_
  refine pu 3 (some 12) (bs 11 13) HT_ ?_
 focus
  refine pu 4 (some 13) (bs 11 29) HT_ ?_
  refine pu 6 (some 15) (bs 11 93) HT_ ?_
  refine ta 1 (some 10) (bs 11 95) HT_ HW_ hHeld ?_
  refine ta 5 (some 14) (bT 11 7) HT_ HW_ hHeld ?_
  refine ro 7 (some 16) (bT 11 8) HT_ (fun K hK => ?_)
  refine gs Tryz.func19 #[.int .i64 a0, .agg #[.int .i64 Ab, .int .i64 Ac, .int .i64 Ad], .slice A2 l2.length c2] ?_
  with_reducible refine (spec_IsGroup.calls _ _ _ _ _ _ _ _ _ _ ?side1 ?side2 A6.out).mono ?_
  (case side1 => exact ks (Kd.C_below HR2.out HB.out))
  (case side2 => exact Aj.out)
  rintro e Ak ⟨rfl, hb⟩
  refine ⟨_, rfl, ?_⟩
  replace Aa := bB Aa hb
  replace HB := bS1 HB Af hb
  (try clear hb)
  (try clear hb2)
  (try clear hk)
  (try clear hi)
  refine hK.out _ _ (eb3 Aa).out (fun hHeld => ?_)
  clear hK K
  refine norm_ (a' := ?_) ?_ ?_
  rotate_left
  ·show Act.put _ (some 16) _ = _
   simp only [Act.put, sA, sB, sC, i64_w, i32_w]
   rfl
  refine pu 8 (some 17) (bT 11 9) HT_ ?_
  refine ro 9 (some 18) (bT 11 10) HT_ (fun K hK => ?_)
  refine gs Tryz.func18 #[.int .i64 a0, .agg #[.int .i64 Ab, .int .i64 Ac, .int .i64 Ad], .bool Ae] ?_
 rotate_left
 refine pf 4 (some 13) (bs 11 29) HT_ ?_
 refine pf 5 (some 14) (bs 11 61) HT_ ?_
 refine pf 6 (some 15) (bs 11 125) HT_ ?_
 refine pf 7 (some 16) (bs 11 253) HT_ ?_
 refine pu 8 (some 17) (bs 11 509) HT_ ?_
 refine ta 1 (some 10) (bT 11 9) HT_ HW_ hHeld ?_
 refine ro 9 (some 18) (bT 11 10) HT_ (fun K hK => ?_)
 refine gs Tryz.func18 #[.int .i64 a0, .agg #[.int .i64 Ab, .int .i64 Ac, .int .i64 Ad], .bool false] ?_
 rotate_left
 all_goals
  with_reducible refine (spec_l06Code.calls _ _ _ _ _ _ _ A7.out).mono ?_
  rintro e Al ⟨rfl, hb⟩
  refine ⟨_, rfl, ?_⟩
  replace Aa := bB Aa hb
  replace HB := bS1 HB Af hb
  (try clear hb)
  (try clear hb2)
  (try clear hk)
  (try clear hi)
  refine hK.out _ _ (eb3 Aa).out (fun hHeld => ?_)
  clear hK K
  refine norm_ (a' := ?_) ?_ ?_
  rotate_left
  ·show Act.put _ (some 18) _ = _
   simp only [Act.put, sA, sB, sC, i64_w, i32_w]
   rfl
  refine pu 10 (some 8) (bT 11 11) HT_ ?_
  refine done_ (done_of HT_.out (by kernel_rfl)) ?_
  try go_wp2
  go_ret
  exact er (bbw1 HB Af)
def spec_l06Shifts.l0 : Nat → List (S46) → List (S44) → Int → Option ((List (S44)))
 | 0, _, _, _ => none
 | k + 1, x0, x3, x4 => if x4 < (x0.length : Int) then (if 0 ≤ x4 then ((spec_l02Unit.f).bind fun Aj => (if (((rd_T46 x0 x4).f0.f0) == Aj.1 && (((rd_T46 x0 x4).f0.f1) == Aj.2.1 && (((rd_T46 x0 x4).f0.f2) == Aj.2.2.1 && (((rd_T46 x0 x4).f0.f3) == Aj.2.2.2)))) = true then (if x3.length < 8796093022208 then (spec_l06Shifts.l0 k x0 (x3 ++ [(⟨(rd_T46 x0 x4).f1.f0, (rd_T46 x0 x4).f1.f1⟩ : S44)]) (wrap64 (x4 + 1))) else (none)) else (spec_l06Shifts.l0 k x0 x3 (wrap64 (x4 + 1))))) else (none)) else (some x3)
def spec_l06Shifts.f (k : Nat) (l0 : List (S46)) : Option ((List (S44))) := spec_l06Shifts.l0 k l0 (([] : List (S44))) 0
theorem spec_l06Shifts.calls (k : Nat) (A0 : Option Addr) (c0 : Nat) (l0 : List (S46)) (r : List (S44)) (w : World) (hr0 : Kd.C k46 w A0 l0.length l0) (hc0 : l0.length ≤ c0) (h : spec_l06Shifts.f k l0 = some r) :
  Calls Tryz.prog 12 #[.slice A0 l0.length c0] w fun e w' => ∃ v0_ : Value, e = .returned (v0_) ∧ Kd.R k44 44 w' w.heap.size (fun _ => True) v0_ r ∧ Below w.heap.size w w' := by
 have hu42 := Tryz.underlying42
 have hu44 := Tryz.underlying44
 have HR0 := Aside0.mk hr0
 have AT := Aside0.mk hc0
 clear hr0 hc0
 have HB := asd (Below.refl w.heap.size w)
 have H : (spec_l06Shifts.l0 k l0 (([] : List (S44))) 0) = some r := h
 clear h
 obtain ⟨Ax, Ac⟩ : ∃ y_ : List (S44), y_ = (([] : List (S44))) := ⟨_, rfl⟩
 replace H : (spec_l06Shifts.l0 k l0 Ax 0) = some r := by first | (rw [Ac]; with_reducible exact H) | (have H2_ := (Option.bind_some _ _).symm.trans H; rw [Ac]; with_reducible exact H2_) | (have H2_ := (Option.bind_some _ _).symm.trans H; with_reducible exact H2_) | with_reducible exact H | (rw [Ac]; exact H) | exact H
 have Aw := Aside0.mk Ac
 clear Ac
 have H' := Aside0.mk H
 clear H
 go_enter Tryz.func12, Tryz.ntmps12
 go_wp2_with (first | ((with_reducible refine gd 5 rfl ?_); refine Kd.R_lit k44 _ 44 ?hg (N := 5) ?hd (xs := ([] : List (S44))) (inner := []) (ok := fun _ => True) (okp := fun _ => True) ?hr ?hp (fun _ hk => hk) trivial (Below.refl _ _) (Nat.le_refl _) (by simp) ?_; (case hd => rfl); (case hg => rfl); (case hr => first | (go_simp; done) | (go_simp; rfl)); (case hp => exact (Reps.none _ _)); intro v285 w2 Ay hb hg_ hnew_; clear hg_ hnew_; (first | rw [← Aw.out] at Ay | (simp only [Int.reduceToNat] at Ay; rw [← Aw.out] at Ay)); have Az := asd (Kd.R_lower Ay (bsz0 HB)); replace HB := bS0 HB hb; clear hb Ay))
 go_loopg [3, 4] k (fun kq v3 v4 w' => ∃ (Ae : List (S44)) (Aa : Int), v4 = .int .i64 Aa ∧ Aside0 (spec_l06Shifts.l0 kq l0 Ae Aa = some r) ∧ Aside0 (kq ≤ k) ∧ Aside0 (Kd.R k44 44 w' w.heap.size (fun _ => True) v3 Ae) ∧ Aside0 (Below w.heap.size w w'))
 case atStart => exact ⟨(Ax), (0), (by first | rfl | (simp; done) | (simp [*]; done)), H', ⟨Nat.le_refl _⟩, ⟨by (with_reducible repeat (first | apply Kd.R_alloc | apply Kd.R_drewN | apply Kd.R_drew)); exact Az.out⟩, ⟨bbw0 HB⟩⟩
 case round =>
  clear H'
  obtain ⟨Ae, Aa, rfl, HA, AD, Ab, HB⟩ := hrel
  cases gk with
  | zero => exact absurd HA.out (by simp [spec_l06Shifts.l0])
  | succ k1 =>
   have H := HA.out
   clear HA
   simp only [spec_l06Shifts.l0] at H
   by_cases c4 : Aa < (l0.length : Int)
   rw [if_pos c4] at H
   have AK := decide_eq_true c4
   clear c4
   by_cases c5 : 0 ≤ Aa
   rw [if_pos c5] at H
   have AR := decide_eq_true c5
   clear c5
   obtain ⟨⟨Af, Ag, Ah, Ai⟩, A6, H⟩ := ob H
   try dsimp only at H
   by_cases c7 : (((rd_T46 l0 Aa).f0.f0) == Af && (((rd_T46 l0 Aa).f0.f1) == Ag && (((rd_T46 l0 Aa).f0.f2) == Ah && (((rd_T46 l0 Aa).f0.f3) == Ai)))) = true
   rw [if_pos c7] at H
   have AL := c7
   (try (have AM : decide (((rd_T46 l0 Aa).f0.f0) = Af && (((rd_T46 l0 Aa).f0.f1) == Ag && (((rd_T46 l0 Aa).f0.f2) == Ah && (((rd_T46 l0 Aa).f0.f3) == Ai)))) = true := by simpa using c7))
   (try (have AN : (((rd_T46 l0 Aa).f0.f0) == Af && (((rd_T46 l0 Aa).f0.f1) == Ag && (((rd_T46 l0 Aa).f0.f2) == Ah && (((rd_T46 l0 Aa).f0.f3) == Ai)))) = true := by simpa using c7))
   clear c7
   by_cases c8 : Ae.length < 8796093022208
   rw [if_pos c8] at H
   have AO := Aside0.mk c8
   clear c8
   obtain ⟨AA, Ad⟩ : ∃ y_ : List (S44), y_ = (Ae ++ [(⟨(rd_T46 l0 Aa).f1.f0, (rd_T46 l0 Aa).f1.f1⟩ : S44)]) := ⟨_, rfl⟩
   replace H : (spec_l06Shifts.l0 k1 l0 AA (wrap64 (Aa + 1))) = some r := by first | (rw [Ad]; with_reducible exact H) | (have H2_ := (Option.bind_some _ _).symm.trans H; rw [Ad]; with_reducible exact H2_) | (have H2_ := (Option.bind_some _ _).symm.trans H; with_reducible exact H2_) | with_reducible exact H | (rw [Ad]; exact H) | exact H
   have AB := Aside0.mk Ad
   clear Ad
   have H' := Aside0.mk H
   clear H
   rotate_left
   ·rw [if_neg c8] at H
    exact absurd H (by simp)
   rw [if_neg c7] at H
   have AL : (((rd_T46 l0 Aa).f0.f0) == Af && (((rd_T46 l0 Aa).f0.f1) == Ag && (((rd_T46 l0 Aa).f0.f2) == Ah && (((rd_T46 l0 Aa).f0.f3) == Ai)))) = false := by simpa using c7
   (try (have AM : decide (((rd_T46 l0 Aa).f0.f0) = Af && (((rd_T46 l0 Aa).f0.f1) == Ag && (((rd_T46 l0 Aa).f0.f2) == Ah && (((rd_T46 l0 Aa).f0.f3) == Ai)))) = false := by simpa using c7))
   (try (have AN : (((rd_T46 l0 Aa).f0.f0) == Af && (((rd_T46 l0 Aa).f0.f1) == Ag && (((rd_T46 l0 Aa).f0.f2) == Ah && (((rd_T46 l0 Aa).f0.f3) == Ai)))) = false := by simpa using c7))
   (try (have AS : ¬ (((rd_T46 l0 Aa).f0.f0) = Af && (((rd_T46 l0 Aa).f0.f1) == Ag && (((rd_T46 l0 Aa).f0.f2) == Ah && (((rd_T46 l0 Aa).f0.f3) == Ai)))) := by simpa using c7))
   clear c7
   have H' := Aside0.mk H
   clear H
   rotate_left
   ·rw [if_neg c5] at H
    exact absurd H (by simp)
   rw [if_neg c4] at H
   have AK := decide_eq_false c4
   clear c4
   obtain rfl := Option.some.inj H
   rotate_left
   rotate_left 2
   ·go_wp2
    go_ret
    exact ⟨_, by first | rfl | (simp [errW_none, errW_some] <;> rfl) | (simp [*, errW_none, errW_some] <;> rfl), by (with_reducible repeat (first | apply Kd.R_alloc | apply Kd.R_drewN | apply Kd.R_drew)); exact Ab.out, bbw0 HB⟩
   all_goals
    try go_wp2
    replace Ab := asd (Kd.R_drew Ab.out)
    replace HB := asd (below_drew1 HB.out)
    obtain ⟨p287, q287, ad287, e287, Ak, Al, Am, An, Ao, Ap, Aq, Ar, As, At, Au, Av⟩ := at_T46w HR0.out HB Aa
    cases e287
    refine sh 7 (ex6 HB Ak Al Am An Ao Ap) (fun hHeld => ?_)
    generalize wr.drew = w9 at Ab HB Aq Ar As At Au Av hHeld ⊢
    refine pure_ (i := 0) (N := some 12) (v := ?_) (a' := ?_) (bT 7 1) rfl rfl (by kernel_rfl) (fun _ _ _ h => h) (Or.inl ⟨by rfl, ?_⟩) ?_ ?_
    rotate_left
    ·intro w'
     go_simp
     with_reducible rfl
    rotate_left
    ·simp only [Act.put, sA, sB, sC, i64_w, i32_w]
     rfl
    refine pure_ (i := 1) (N := some 13) (v := ?_) (a' := ?_) (bT 7 2) rfl rfl (by kernel_rfl) (fun _ _ _ h => h) (Or.inl ⟨by rfl, ?_⟩) ?_ ?_
    rotate_left
    ·intro w'
     go_simp
     with_reducible rfl
    rotate_left
    ·simp only [Act.put, sA, sB, sC, i64_w, i32_w]
     rfl
    refine pure_ (i := 2) (N := some 14) (v := ?_) (a' := ?_) (bT 7 3) rfl rfl (by kernel_rfl) (fun _ _ _ h => h) (Or.inl ⟨by rfl, ?_⟩) ?_ ?_
    rotate_left
    ·intro w'
     go_simp
     with_reducible rfl
    rotate_left
    ·simp only [Act.put, sA, sB, sC, i64_w, i32_w]
     rfl
    refine pure_ (i := 3) (N := some 15) (v := ?_) (a' := ?_) (bT 7 4) rfl rfl (by kernel_rfl) (fun _ _ _ h => h) (Or.inl ⟨by rfl, ?_⟩) ?_ ?_
    rotate_left
    ·intro w'
     go_simp
     with_reducible rfl
    rotate_left
    ·simp only [Act.put, sA, sB, sC, i64_w, i32_w]
     rfl
    refine take_ (i := 4) (N := some 16) (v := ?_) (a' := ?_) (bT 7 5) rfl rfl (by kernel_rfl) (fun _ _ _ h => h) (Or.inl ⟨by rfl, ?_⟩) hHeld ?_ ?_
    rotate_left
    ·rintro w' ⟨s0, s1, s2, s3, s4, s5⟩
     go_simp
     with_reducible rfl
    rotate_left
    ·simp only [Act.put, sA, sB, sC, i64_w, i32_w]
     rfl
    refine one_ (i := 5) (N := some 17) (bT 7 6) rfl rfl (by kernel_rfl) (by decide) (fun K hK => ?_)
    refine gs Tryz.func20 #[] ?_
    with_reducible refine (spec_l02Unit.calls _ _ _ _ _ A6.out).mono ?_
    rintro e AU ⟨rfl, hb⟩
    refine ⟨_, rfl, ?_⟩
    replace Ab := asd (Kd.R_below (kr Ab) hb)
    replace HB := bS0 HB hb
    (try clear hb)
    (try clear hb2)
    (try clear hk)
    (try clear hi)
    refine hK.out _ _ (ex6 HB Ak Al Am An Ao Ap).out (fun hHeld => ?_)
    clear hK K
    refine norm_ (a' := ?_) ?_ ?_
    rotate_left
    ·show Act.put _ (some 17) _ = _
     simp only [Act.put, sA, sB, sC, i64_w, i32_w]
     rfl
    refine pure_ (i := 6) (N := some 18) (v := ?_) (a' := ?_) (bT 7 7) rfl rfl (by kernel_rfl) (fun _ _ _ h => h) (Or.inl ⟨by rfl, ?_⟩) ?_ ?_
    rotate_left
    ·intro w'
     go_simp
     with_reducible rfl
    rotate_left
    ·simp only [Act.put, sA, sB, sC, i64_w, i32_w]
     rfl
    refine done_ (by kernel_rfl) ?_
   ·obtain ⟨p292, q292, ad292, e292, AE, AF, AG, AH, AI, AJ⟩ := at_T46x HR0.out HB Aa
    obtain rfl : ad287 = ad292 := (by injection e292)
    try go_wp2_with (first | ((with_reducible refine gate_builtin (b := .append) (xs := #[.tmp 19, .tmp 25]) rfl ?_); at_builtin; refine Kd.R_append k44 (w0 := w) w.heap.size rfl (.tmp 19) (.tmp 25) 38 44 (.agg #[(.int .i64 0), (.int .i64 0)]) 16 rfl Tryz.underlying38 info44 rfl (by decide) (by omega) u3 Ae (⟨(rd_T46 l0 Aa).f1.f0, (rd_T46 l0 Aa).f1.f1⟩ : S44) [.int .i64 ((rd_T46 l0 Aa).f1.f0), .int .i64 ((rd_T46 l0 Aa).f1.f1)] (fun _ => True) (fun _ => False) rfl rfl ?aP (fun _ hk => hk.elim) ?aF ?aO ?aB ?aS ?aL ?_; (case aP => exact k44_mkM _ _ _ (⟨(rd_T46 l0 Aa).f1.f0, (rd_T46 l0 Aa).f1.f1⟩ : S44)); (case aB => exact (bbw0 HB)); (case aF => exact (fun _ _ => trivial)); (case aO => exact (kr Ab)); (case aS => exact (bsz0 HB)); (case aL => have := AO.out; omega); intro v294 AV ho hb hg hat; rw [← AB.out] at ho; have AP := asd (hb); have AQ := asd (ho); clear HB; clear Ab; have HB := AP; have AC := AQ; clear AP AQ; clear ho hb hg hat))
    go_roundg k1
    case measure => have := AD.out; omega
    case rel => exact ⟨(AA), (wrap64 (Aa + 1)), (by first | rfl | (simp; done) | (simp [*]; done)), H', ⟨by have := AD.out; omega⟩, ⟨by (with_reducible repeat (first | apply Kd.R_alloc | apply Kd.R_drewN | apply Kd.R_drew)); exact AC.out⟩, ⟨bbw0 HB⟩⟩
   ·try go_wp2
    go_roundg k1
    case measure => have := AD.out; omega
    case rel => exact ⟨(Ae), (wrap64 (Aa + 1)), (by first | rfl | (simp; done) | (simp [*]; done)), H', ⟨by have := AD.out; omega⟩, ⟨by (with_reducible repeat (first | apply Kd.R_alloc | apply Kd.R_drewN | apply Kd.R_drew)); exact Ab.out⟩, ⟨bbw0 HB⟩⟩
attribute [local go_sem high] eqA42 eqA44
def spec_l02Order.l0 : Nat → Int → Int → Int → Int → Int → Int → Int → Int → Int → Option (Int)
 | 0, _, _, _, _, _, _, _, _, _ => none
 | k + 1, x4, Ay, Az, AA, AB, AH, AI, AJ, AK => if x4 ≤ 6 then ((spec_l02Multiply.f Ay Az AA AB AH AI AJ AK).bind fun Ai => ((spec_l02Small.f Ai.1 Ai.2.1 Ai.2.2.1 Ai.2.2.2).bind fun AL => (if AL = true then ((spec_l02Unit.f).bind fun AC => (if (Ai.1 == AC.1 && (Ai.2.1 == AC.2.1 && (Ai.2.2.1 == AC.2.2.1 && (Ai.2.2.2 == AC.2.2.2)))) = true then (some x4) else (spec_l02Order.l0 k (wrap64 (x4 + 1)) Ay Az AA AB Ai.1 Ai.2.1 Ai.2.2.1 Ai.2.2.2))) else (some 0)))) else (some 0)
def spec_l02Order.f (k : Nat) (Al : Int) (Am : Int) (An : Int) (Ao : Int) : Option (Int) := (spec_l02Unit.f).bind fun Ak => (spec_l02Order.l0 k 1 Al Am An Ao Ak.1 Ak.2.1 Ak.2.2.1 Ak.2.2.2)
theorem spec_l02Order.calls (k : Nat) (Al : Int) (Am : Int) (An : Int) (Ao : Int) (r : Int) (w : World) (h : spec_l02Order.f k Al Am An Ao = some r) :
  Calls Tryz.prog 22 #[.agg #[.int .i64 Al, .int .i64 Am, .int .i64 An, .int .i64 Ao]] w fun e w' => e = .returned (.int .i64 r) ∧ Below w.heap.size w w' := by
 have hu42 := Tryz.underlying42
 have HB := asd (Below.refl w.heap.size w)
 have H : ((spec_l02Unit.f).bind fun Ak => (spec_l02Order.l0 k 1 Al Am An Ao Ak.1 Ak.2.1 Ak.2.2.1 Ak.2.2.2)) = some r := h
 clear h
 obtain ⟨⟨Bw, Bx, By, Bz⟩, A2, H⟩ := ob H
 try dsimp only at H
 have H' := Aside0.mk H
 clear H
 go_enter Tryz.func22, Tryz.ntmps22
 go_wp2_with (first | ((with_reducible refine gd 1 rfl ?_); refine bx #[.int .i64 Al, .int .i64 Am, .int .i64 An, .int .i64 Ao] 42 ?_; intro AD hg w3 Aa hb; have Ac := ngw0 hg HB; replace HB := bS0 HB hb; clear hb hg) | ((with_reducible refine gate_callee (f := 20) rfl ?_); refine gl 5 Tryz.func20 #[] ?_; (with_reducible refine (spec_l02Unit.calls _ _ _ _ _ A2.out).mono ?_); rintro e w4 ⟨rfl, hb⟩; refine ⟨_, rfl, ?_⟩; replace Aa := bB Aa hb; replace HB := bS1 HB Ac hb; (try clear hb)) | ((with_reducible refine gd 3 rfl ?_); refine bx #[.int .i64 0, .int .i64 0, .int .i64 0, .int .i64 0] 42 ?_; intro AE hg w5 Ab hb; have Aj := ngw1 hg HB Ac; replace HB := bS1 HB Ac hb; have Ad := nlt hg Aa; have At := nsy (nlt hg Aa); replace Aa := bB Aa hb; clear hb hg; have BG := At.out; have BH := Ad.out; obtain ⟨AM, AN, AO, AP, AQ, AR, AS, AT⟩ := bz4 Ab))
 go_loopg [4] k (fun kq v4 w' => ∃ (AF : Int) (Ae : Int) (Af : Int) (Ag : Int) (Ah : Int), v4 = .int .i64 AF ∧ Aside0 (spec_l02Order.l0 kq AF Al Am An Ao Ae Af Ag Ah = some r) ∧ Aside0 (kq ≤ k) ∧ Aside0 (w'.heap[AD]? = some (.cells #[.int .i64 Al, .int .i64 Am, .int .i64 An, .int .i64 Ao] 42 (0, 0))) ∧ Aside0 (w'.heap[AE]? = some (.cells #[.int .i64 Ae, .int .i64 Af, .int .i64 Ag, .int .i64 Ah] 42 (0, 0))) ∧ Aside0 (Below w.heap.size w w'))
 case atStart => exact ⟨(1), (Bw), (Bx), (By), (Bz), (by first | rfl | (simp; done) | (simp [*]; done)), H', ⟨Nat.le_refl _⟩, ⟨bq1 Aa Ad⟩, ⟨bq0 Ab⟩, ⟨bbw2 HB Ac Aj⟩⟩
 case round =>
  clear H'
  try clear AM
  try clear AN
  try clear AO
  try clear AP
  try clear AQ
  try clear AR
  try clear AS
  try clear AT
  obtain ⟨AF, Ae, Af, Ag, Ah, rfl, HA, BB, Aa, Ab, HB⟩ := hrel
  cases gk with
  | zero => exact absurd HA.out (by simp [spec_l02Order.l0])
  | succ k1 =>
   have H := HA.out
   clear HA
   simp only [spec_l02Order.l0] at H
   by_cases c8 : AF ≤ 6
   rw [if_pos c8] at H
   have BA := decide_eq_true c8
   clear c8
   obtain ⟨⟨Ap, Aq, Ar, As⟩, A9, H⟩ := ob H
   try dsimp only at H
   obtain ⟨AL, BC, H⟩ := ob H
   try dsimp only at H
   by_cases AX : AL = true
   subst AX
   replace H := ifT H
   obtain ⟨⟨Au, Av, Aw, Ax⟩, BI, H⟩ := ob H
   try dsimp only at H
   by_cases AG : (Ap == Au && (Aq == Av && (Ar == Aw && (As == Ax)))) = true
   rw [if_pos AG] at H
   have AU := AG
   (try (have AV : decide (Ap = Au && (Aq == Av && (Ar == Aw && (As == Ax)))) = true := by simpa using AG))
   (try (have AW : (Ap == Au && (Aq == Av && (Ar == Aw && (As == Ax)))) = true := by simpa using AG))
   clear AG
   obtain rfl := Option.some.inj H
   rotate_left
   rw [if_neg AG] at H
   have AU : (Ap == Au && (Aq == Av && (Ar == Aw && (As == Ax)))) = false := by simpa using AG
   (try (have AV : decide (Ap = Au && (Aq == Av && (Ar == Aw && (As == Ax)))) = false := by simpa using AG))
   (try (have AW : (Ap == Au && (Aq == Av && (Ar == Aw && (As == Ax)))) = false := by simpa using AG))
   (try (have BD : ¬ (Ap = Au && (Aq == Av && (Ar == Aw && (As == Ax)))) := by simpa using AG))
   clear AG
   have H' := Aside0.mk H
   clear H
   rotate_left
   replace AX := Bool.eq_false_iff.mpr AX
   subst AX
   replace H := ifF H
   obtain rfl := Option.some.inj H
   rotate_left
   rw [if_neg c8] at H
   have BA := decide_eq_false c8
   clear c8
   obtain rfl := Option.some.inj H
   rotate_left
   rotate_left 3
   ·go_wp2
    go_ret
    exact er (bbw2 HB Ac Aj)
   all_goals
    have BE := Ad.out
    have BF := At.out
    obtain ⟨AY, AZ, A0, A1, A3, A4, A5, A6⟩ := bz4 Aa
    obtain ⟨A7, A8, Ba, Bb, Bc, Bd, Be, Bf⟩ := bz4 Ab
   rotate_left 2
   ·go_wp2_with (first | ((with_reducible refine gate_callee (f := 50) rfl ?_); refine gl 12 Tryz.func50 #[.agg #[.int .i64 Al, .int .i64 Am, .int .i64 An, .int .i64 Ao], .agg #[.int .i64 Ae, .int .i64 Af, .int .i64 Ag, .int .i64 Ah]] ?_; (with_reducible refine (spec_l02Multiply.calls _ _ _ _ _ _ _ _ _ _ _ _ _ A9.out).mono ?_); rintro e BK ⟨rfl, hb⟩; refine ⟨_, rfl, ?_⟩; replace Aa := bB Aa hb; replace Ab := bB Ab hb; replace HB := bS2 HB Ac Aj hb; (try clear hb); obtain ⟨Bg, Bh, Bi, Bj, Bk, Bl, Bm, Bn⟩ := bz4 Ab) | ((with_reducible refine gate_callee (f := 51) rfl ?_); refine gl 14 Tryz.func51 #[.agg #[.int .i64 Ap, .int .i64 Aq, .int .i64 Ar, .int .i64 As]] ?_; (with_reducible refine (spec_l02Small.calls _ _ _ _ _ _ BC.out).mono ?_); rintro e BL ⟨rfl, hb⟩; refine ⟨_, rfl, ?_⟩; replace Aa := asd (blk_below (g := AD) (o := .cells #[.int .i64 Al, .int .i64 Am, .int .i64 An, .int .i64 Ao] 42 (0, 0)) (bq1 Aa Ad) hb); replace Ab := asd (blk_below (g := AE) (o := .cells #[.int .i64 Ap, .int .i64 Aq, .int .i64 Ar, .int .i64 As] 42 (0, 0)) (bq0 Ab) hb); replace HB := bS2 HB Ac Aj hb; (try clear hb)))
    go_ret
    exact er (bbw2 HB Ac Aj)
   all_goals
    try go_wp2_with (first | ((with_reducible refine gate_callee (f := 50) rfl ?_); refine gl 12 Tryz.func50 #[.agg #[.int .i64 Al, .int .i64 Am, .int .i64 An, .int .i64 Ao], .agg #[.int .i64 Ae, .int .i64 Af, .int .i64 Ag, .int .i64 Ah]] ?_; (with_reducible refine (spec_l02Multiply.calls _ _ _ _ _ _ _ _ _ _ _ _ _ A9.out).mono ?_); rintro e BM ⟨rfl, hb⟩; refine ⟨_, rfl, ?_⟩; replace Aa := bB Aa hb; replace Ab := bB Ab hb; replace HB := bS2 HB Ac Aj hb; (try clear hb); obtain ⟨Bo, Bp, Bq, Br, Bs, Bt, Bu, Bv⟩ := bz4 Ab) | ((with_reducible refine gate_callee (f := 51) rfl ?_); refine gl 14 Tryz.func51 #[.agg #[.int .i64 Ap, .int .i64 Aq, .int .i64 Ar, .int .i64 As]] ?_; (with_reducible refine (spec_l02Small.calls _ _ _ _ _ _ BC.out).mono ?_); rintro e BJ ⟨rfl, hb⟩; refine ⟨_, rfl, ?_⟩; replace Aa := asd (blk_below (g := AD) (o := .cells #[.int .i64 Al, .int .i64 Am, .int .i64 An, .int .i64 Ao] 42 (0, 0)) (bq1 Aa Ad) hb); replace Ab := asd (blk_below (g := AE) (o := .cells #[.int .i64 Ap, .int .i64 Aq, .int .i64 Ar, .int .i64 As] 42 (0, 0)) (bq0 Ab) hb); replace HB := bS2 HB Ac Aj hb; (try clear hb)))
    replace Aa := asd (blk_drew Aa.out)
    replace Ab := asd (blk_drew Ab.out)
    replace HB := asd (below_drew1 HB.out)
    refine sh 3 (eb4 Ab) (fun hHeld => ?_)
    generalize BJ.drew = BN at Aa Ab HB hHeld ⊢
    refine take_ (i := 0) (N := some 16) (v := ?_) (a' := ?_) (bT 3 1) rfl rfl (by kernel_rfl) (fun _ _ _ h => h) (Or.inl ⟨by rfl, ?_⟩) hHeld ?_ ?_
    rotate_left
    ·rintro w' ⟨s0, s1, s2, s3⟩
     go_simp
     with_reducible rfl
    rotate_left
    ·simp only [Act.put, sA, sB, sC, i64_w, i32_w]
     rfl
    refine one_ (i := 1) (N := some 17) (bT 3 2) rfl rfl (by kernel_rfl) (by decide) (fun K hK => ?_)
    refine gs Tryz.func20 #[] ?_
    with_reducible refine (spec_l02Unit.calls _ _ _ _ _ BI.out).mono ?_
    rintro e BO ⟨rfl, hb⟩
    refine ⟨_, rfl, ?_⟩
    replace Aa := bB Aa hb
    replace Ab := bB Ab hb
    replace HB := bS2 HB Ac Aj hb
    (try clear hb)
    (try clear hb2)
    (try clear hk)
    (try clear hi)
    refine hK.out _ _ (eb4 Ab).out (fun hHeld => ?_)
    clear hK K
    refine norm_ (a' := ?_) ?_ ?_
    rotate_left
    ·show Act.put _ (some 17) _ = _
     simp only [Act.put, sA, sB, sC, i64_w, i32_w]
     rfl
    refine pure_ (i := 2) (N := some 18) (v := ?_) (a' := ?_) (bT 3 3) rfl rfl (by kernel_rfl) (fun _ _ _ h => h) (Or.inl ⟨by rfl, ?_⟩) ?_ ?_
    rotate_left
    ·intro w'
     go_simp
     with_reducible rfl
    rotate_left
    ·simp only [Act.put, sA, sB, sC, i64_w, i32_w]
     rfl
    refine done_ (by kernel_rfl) ?_
    try go_wp2
   ·go_ret
    exact er (bbw2 HB Ac Aj)
   ·go_roundg k1
    case measure => have := BB.out; omega
    case rel => exact ⟨(wrap64 (AF + 1)), (Ap), (Aq), (Ar), (As), (by first | rfl | (simp; done) | (simp [*]; done)), H', ⟨by have := BB.out; omega⟩, ⟨bkp Aa⟩, ⟨bkp Ab⟩, ⟨bbw2 HB Ac Aj⟩⟩
mutual
def spec_l04Near.l0 : Nat → Int → Int → Int → List (S44) → Int → Option ((List (S44)))
 | 0, _, _, _, _, _ => none
 | k + 1, x0, x1, x2, x7, x8 => if x8 ≤ x2 then (spec_l04Near.l1 k x0 x1 x2 x7 x8 (wrap64 (-x2))) else (some x7)
def spec_l04Near.l1 : Nat → Int → Int → Int → List (S44) → Int → Int → Option ((List (S44)))
 | 0, _, _, _, _, _, _ => none
 | k + 1, x0, x1, x2, x7, x8, x9 => if x9 ≤ x2 then ((spec_l04Norm.f x0 x8 x9).bind fun Al => (if Al ≤ x1 then (if x7.length < 8796093022208 then (spec_l04Near.l1 k x0 x1 x2 (x7 ++ [(⟨x8, x9⟩ : S44)]) x8 (wrap64 (x9 + 1))) else (none)) else (spec_l04Near.l1 k x0 x1 x2 x7 x8 (wrap64 (x9 + 1))))) else (spec_l04Near.l0 k x0 x1 x2 x7 (wrap64 (x8 + 1)))
end
def spec_l04Near.f (k : Nat) (a0 : Int) (a1 : Int) (a2 : Int) : Option ((List (S44))) := spec_l04Near.l0 k a0 a1 a2 (([] : List (S44))) (wrap64 (-a2))
theorem spec_l04Near.calls (k : Nat) (a0 : Int) (a1 : Int) (a2 : Int) (r : List (S44)) (w : World) (h : spec_l04Near.f k a0 a1 a2 = some r) :
  Calls Tryz.prog 52 #[.int .i64 a0, .int .i64 a1, .int .i64 a2] w fun e w' => ∃ v0_ : Value, e = .returned (v0_) ∧ Kd.R k44 44 w' w.heap.size (fun _ => True) v0_ r ∧ Below w.heap.size w w' := by
 have hu44 := Tryz.underlying44
 have HB := asd (Below.refl w.heap.size w)
 have H : (spec_l04Near.l0 k a0 a1 a2 (([] : List (S44))) (wrap64 (-a2))) = some r := h
 clear h
 obtain ⟨Ao, Ag⟩ : ∃ y_ : List (S44), y_ = (([] : List (S44))) := ⟨_, rfl⟩
 replace H : (spec_l04Near.l0 k a0 a1 a2 Ao (wrap64 (-a2))) = some r := by first | (rw [Ag]; with_reducible exact H) | (have H2_ := (Option.bind_some _ _).symm.trans H; rw [Ag]; with_reducible exact H2_) | (have H2_ := (Option.bind_some _ _).symm.trans H; with_reducible exact H2_) | with_reducible exact H | (rw [Ag]; exact H) | exact H
 have Ak := Aside0.mk Ag
 clear Ag
 have H' := Aside0.mk H
 clear H
 go_enter Tryz.func52, Tryz.ntmps52
 go_wp2_with (first | ((with_reducible refine gd 11 rfl ?_); refine Kd.R_lit k44 _ 44 ?hg (N := 11) ?hd (xs := ([] : List (S44))) (inner := []) (ok := fun _ => True) (okp := fun _ => True) ?hr ?hp (fun _ hk => hk) trivial (Below.refl _ _) (Nat.le_refl _) (by simp) ?_; (case hd => rfl); (case hg => rfl); (case hr => first | (go_simp; done) | (go_simp; rfl)); (case hp => exact (Reps.none _ _)); intro v312 w4 Ap hb hg_ hnew_; clear hg_ hnew_; (first | rw [← Ak.out] at Ap | (simp only [Int.reduceToNat] at Ap; rw [← Ak.out] at Ap)); have Aq := asd (Kd.R_lower Ap (bsz0 HB)); replace HB := bS0 HB hb; clear hb Ap))
 go_loopg [7, 8] k (fun kq v7 v8 w' => ∃ (Aj : List (S44)) (Ab : Int), v8 = .int .i64 Ab ∧ Aside0 (spec_l04Near.l0 kq a0 a1 a2 Aj Ab = some r) ∧ Aside0 (kq ≤ k) ∧ Aside0 (Kd.R k44 44 w' w.heap.size (fun _ => True) v7 Aj) ∧ Aside0 (Below w.heap.size w w'))
 case atStart => exact ⟨(Ao), (wrap64 (-a2)), (by first | rfl | (simp; done) | (simp [*]; done)), H', ⟨Nat.le_refl _⟩, ⟨by (with_reducible repeat (first | apply Kd.R_alloc | apply Kd.R_drewN | apply Kd.R_drew)); exact Aq.out⟩, ⟨bbw0 HB⟩⟩
 case round =>
  clear H'
  obtain ⟨Aj, Ab, rfl, HA, Am, Ad, HB⟩ := hrel
  cases gk with
  | zero => exact absurd HA.out (by simp [spec_l04Near.l0])
  | succ k1 =>
   have H := HA.out
   clear HA
   simp only [spec_l04Near.l0] at H
   by_cases c6 : Ab ≤ a2
   ·rw [if_pos c6] at H
    have Ar := decide_eq_true c6
    clear c6
    have H' := Aside0.mk H
    clear H
    go_wp2
    go_loopg [7, 9] k1 (fun kq v7 v9 w' => ∃ (Ah : List (S44)) (Ac : Int), v9 = .int .i64 Ac ∧ Aside0 (spec_l04Near.l1 kq a0 a1 a2 Ah Ab Ac = some r) ∧ Aside0 (kq ≤ k1) ∧ Aside0 (Kd.R k44 44 w' w.heap.size (fun _ => True) v7 Ah) ∧ Aside0 (Below w.heap.size w w'))
    case atStart => exact ⟨(Aj), (wrap64 (-a2)), (by first | rfl | (simp; done) | (simp [*]; done)), H', ⟨Nat.le_refl _⟩, ⟨by (with_reducible repeat (first | apply Kd.R_alloc | apply Kd.R_drewN | apply Kd.R_drew)); exact Ad.out⟩, ⟨bbw0 HB⟩⟩
    case round =>
     clear H'
     try clear c6
     try clear Ar
     obtain ⟨Ah, Ac, rfl, HA, An, Ad, HB⟩ := hrel
     cases gk with
     | zero => exact absurd HA.out (by simp [spec_l04Near.l1])
     | succ k2 =>
      have H := HA.out
      clear HA
      simp only [spec_l04Near.l1] at H
      by_cases c7 : Ac ≤ a2
      ·rw [if_pos c7] at H
       have AI := decide_eq_true c7
       clear c7
       obtain ⟨Al, A8, H⟩ := ob H
       try dsimp only at H
       by_cases c9 : Al ≤ a1
       ·rw [if_pos c9] at H
        have AJ := decide_eq_true c9
        clear c9
        by_cases c10 : Ah.length < 8796093022208
        ·rw [if_pos c10] at H
         have As := Aside0.mk c10
         clear c10
         obtain ⟨At, Ai⟩ : ∃ y_ : List (S44), y_ = (Ah ++ [(⟨Ab, Ac⟩ : S44)]) := ⟨_, rfl⟩
         replace H : (spec_l04Near.l1 k2 a0 a1 a2 At Ab (wrap64 (Ac + 1))) = some r := by first | (rw [Ai]; with_reducible exact H) | (have H2_ := (Option.bind_some _ _).symm.trans H; rw [Ai]; with_reducible exact H2_) | (have H2_ := (Option.bind_some _ _).symm.trans H; with_reducible exact H2_) | with_reducible exact H | (rw [Ai]; exact H) | exact H
         have Au := Aside0.mk Ai
         clear Ai
         have H' := Aside0.mk H
         clear H
         go_wp2_with (first | ((with_reducible refine gd 10 rfl ?_); refine bx #[.int .i64 0, .int .i64 0] 44 ?_; intro Ae hg AN Aa hb; replace Ad := asd (Kd.R_below (Kd.R_elderB (kr Ad) Ae (Nat.le_of_eq hg.symm)) hb); have Af := ngw0 hg HB; replace HB := bS0 HB hb; clear hb hg; obtain ⟨Aw, Ax, Ay, Az⟩ := bz2 Aa) | ((with_reducible refine gate_callee (f := 23) rfl ?_); refine gl 31 Tryz.func23 #[.int .i64 a0, .agg #[.int .i64 Ab, .int .i64 Ac]] ?_; (with_reducible refine (spec_l04Norm.calls _ _ _ _ _ A8.out).mono ?_); rintro e AO ⟨rfl, hb⟩; refine ⟨_, rfl, ?_⟩; replace Ad := asd (Kd.R_below (by (with_reducible repeat (first | apply Kd.R_alloc | apply Kd.R_drewN | apply Kd.R_drew)); exact (Kd.R_mono (rw2 (Kd.R_mono Ad.out (fun k_ hk => (⟨hk, hk.2⟩ : _ ∧ k_ ≠ Ae)))) (fun _ h_ => h_.1))) hb); replace Aa := asd (blk_below (g := Ae) (o := .cells #[.int .i64 Ab, .int .i64 Ac] 44 (0, 0)) (bq0 Aa) hb); replace HB := bS1 HB Af hb; (try clear hb); obtain ⟨AA, AB, AC, AD⟩ := bz2 Aa) | ((with_reducible refine gate_builtin (b := .append) (xs := #[.tmp 34, .tmp 36]) rfl ?_); at_builtin; refine Kd.R_append k44 (w0 := w) w.heap.size rfl (.tmp 34) (.tmp 36) 38 44 (.agg #[(.int .i64 0), (.int .i64 0)]) 16 rfl Tryz.underlying38 info44 rfl (by decide) (by omega) u7 Ah (⟨Ab, Ac⟩ : S44) [.int .i64 Ab, .int .i64 Ac] (fun k_ => k_ ≠ Ae) (fun _ => False) rfl rfl ?aP (fun _ hk => hk.elim) ?aF ?aO ?aB ?aS ?aL ?_; (case aP => exact k44_mkM _ _ _ (⟨Ab, Ac⟩ : S44)); (case aB => exact (bbw1 HB Af)); (case aF => exact (fun k_ hk => Kd.freshB (g := Ae) (o := .cells #[.int .i64 Ab, .int .i64 Ac] 44 (0, 0)) (bkp Aa) k_ hk)); (case aO => exact (by (with_reducible repeat (first | apply Kd.R_alloc | apply Kd.R_drewN | apply Kd.R_drew)); exact Kd.R_mono Ad.out (fun _ hk => hk.2))); (case aS => exact (bsz1 HB Af)); (case aL => have := As.out; omega); intro v317 AP ho hb hg hat; rw [← Au.out] at ho; have AK := asd (blk_grown (g := Ae) (o := .cells #[.int .i64 Ab, .int .i64 Ac] 44 (0, 0)) (bkp Aa) hg (Kd.R_away Ad.out (fun _ hk => hk.2))); have AL := asd (hb); have AM := asd (ho); clear Aa; clear HB; clear Ad; have Aa := AK; have HB := AL; have Av := AM; clear AK AL AM; clear ho hb hg hat))
         go_roundg k2
         case measure => have := Am.out; have := An.out; omega
         case rel => exact ⟨(At), (wrap64 (Ac + 1)), (by first | rfl | (simp; done) | (simp [*]; done)), H', ⟨by have := Am.out; have := An.out; omega⟩, ⟨by (with_reducible repeat (first | apply Kd.R_alloc | apply Kd.R_drewN | apply Kd.R_drew)); exact Kd.R_mono Av.out (fun _ hk => trivial)⟩, ⟨bbw1 HB Af⟩⟩
        ·rw [if_neg c10] at H
         exact absurd H (by simp)
       ·rw [if_neg c9] at H
        have AJ := decide_eq_false c9
        clear c9
        have H' := Aside0.mk H
        clear H
        go_wp2_with (first | ((with_reducible refine gd 10 rfl ?_); refine bx #[.int .i64 0, .int .i64 0] 44 ?_; intro Ae hg AQ Aa hb; replace Ad := asd (Kd.R_below (Kd.R_elderB (kr Ad) Ae (Nat.le_of_eq hg.symm)) hb); have Af := ngw0 hg HB; replace HB := bS0 HB hb; clear hb hg; obtain ⟨AE, AF, AG, AH⟩ := bz2 Aa) | ((with_reducible refine gate_callee (f := 23) rfl ?_); refine gl 31 Tryz.func23 #[.int .i64 a0, .agg #[.int .i64 Ab, .int .i64 Ac]] ?_; (with_reducible refine (spec_l04Norm.calls _ _ _ _ _ A8.out).mono ?_); rintro e AR ⟨rfl, hb⟩; refine ⟨_, rfl, ?_⟩; replace Ad := asd (Kd.R_below (by (with_reducible repeat (first | apply Kd.R_alloc | apply Kd.R_drewN | apply Kd.R_drew)); exact (Kd.R_mono (rw2 (Kd.R_mono Ad.out (fun k_ hk => (⟨hk, hk.2⟩ : _ ∧ k_ ≠ Ae)))) (fun _ h_ => h_.1))) hb); replace Aa := asd (blk_below (g := Ae) (o := .cells #[.int .i64 Ab, .int .i64 Ac] 44 (0, 0)) (bq0 Aa) hb); replace HB := bS1 HB Af hb; (try clear hb)))
        go_roundg k2
        case measure => have := Am.out; have := An.out; omega
        case rel => exact ⟨(Ah), (wrap64 (Ac + 1)), (by first | rfl | (simp; done) | (simp [*]; done)), H', ⟨by have := Am.out; have := An.out; omega⟩, ⟨by (with_reducible repeat (first | apply Kd.R_alloc | apply Kd.R_drewN | apply Kd.R_drew)); exact Kd.R_mono Ad.out (fun _ hk => trivial)⟩, ⟨bbw1 HB Af⟩⟩
      ·rw [if_neg c7] at H
       have AI := decide_eq_false c7
       clear c7
       have H' := Aside0.mk H
       clear H
       go_wp2
       go_roundg k2
       case measure => have := Am.out; have := An.out; omega
       case rel => exact ⟨(Ah), (wrap64 (Ab + 1)), (by first | rfl | (simp; done) | (simp [*]; done)), H', ⟨by have := Am.out; have := An.out; omega⟩, ⟨by (with_reducible repeat (first | apply Kd.R_alloc | apply Kd.R_drewN | apply Kd.R_drew)); exact Ad.out⟩, ⟨bbw0 HB⟩⟩
   ·rw [if_neg c6] at H
    have Ar := decide_eq_false c6
    clear c6
    obtain rfl := Option.some.inj H
    go_wp2
    go_ret
    exact ⟨_, by first | rfl | (simp [errW_none, errW_some] <;> rfl) | (simp [*, errW_none, errW_some] <;> rfl), by (with_reducible repeat (first | apply Kd.R_alloc | apply Kd.R_drewN | apply Kd.R_drew)); exact Ad.out, bbw0 HB⟩
def spec_l03Has.f (Ac : Int) (Ad : Int) (Ae : Int) (Af : Int) (Ag : Int) : Option (Bool) := (spec_l03Reduce.f Ac Ad Ae Af Ag).bind fun Ab => (some (Ab.1 == 0 && (Ab.2 == 0)))
theorem spec_l03Has.calls (Ac : Int) (Ad : Int) (Ae : Int) (Af : Int) (Ag : Int) (r : Bool) (w : World) (h : spec_l03Has.f Ac Ad Ae Af Ag = some r) :
  Calls Tryz.prog 53 #[.agg #[.int .i64 Ac, .int .i64 Ad, .int .i64 Ae], .agg #[.int .i64 Af, .int .i64 Ag]] w fun e w' => e = .returned (.bool r) ∧ Below w.heap.size w w' := by
 have hu30 := Tryz.underlying30
 have hu44 := Tryz.underlying44
 have HB := asd (Below.refl w.heap.size w)
 have H : ((spec_l03Reduce.f Ac Ad Ae Af Ag).bind fun Ab => (some (Ab.1 == 0 && (Ab.2 == 0)))) = some r := h
 clear h
 obtain ⟨⟨Ay, Az⟩, A3, H⟩ := ob H
 try dsimp only at H
 obtain rfl := Option.some.inj H
 go_enter Tryz.func53, Tryz.ntmps53
 go_wp2_with (first | ((with_reducible refine gd 2 rfl ?_); refine bx #[.int .i64 Ac, .int .i64 Ad, .int .i64 Ae] 30 ?_; intro Aw hg w4 Aa hb; have Ah := ngw0 hg HB; replace HB := bS0 HB hb; clear hb hg) | ((with_reducible refine gd 3 rfl ?_); refine bx #[.int .i64 Af, .int .i64 Ag] 44 ?_; intro Ax hg w5 Ak hb; have Al := ngw1 hg HB Ah; replace HB := bS1 HB Ah hb; have Ai := nlt hg Aa; have Aj := nsy (nlt hg Aa); replace Aa := bB Aa hb; clear hb hg; have AA := Ai.out; have AB := Aj.out; obtain ⟨Am, An, Ao, Ap, Aq, Ar⟩ := bz3 Aa; obtain ⟨As, At, Au, Av⟩ := bz2 Ak) | ((with_reducible refine gate_callee (f := 82) rfl ?_); refine gl 7 Tryz.func82 #[.agg #[.int .i64 Ac, .int .i64 Ad, .int .i64 Ae], .agg #[.int .i64 Af, .int .i64 Ag]] ?_; (with_reducible refine (spec_l03Reduce.calls _ _ _ _ _ _ _ _ A3.out).mono ?_); rintro e w9 ⟨rfl, hb⟩; refine ⟨_, rfl, ?_⟩; replace Aa := bB Aa hb; replace Ak := bB Ak hb; replace HB := bS2 HB Ah Al hb; (try clear hb)))
 go_ret
 exact er (bbw2 HB Ah Al)
end Go.Proofs.YtfmjboloeabjmaaGreat.PA
