/- Walks written by program: each Go function that the law reaches comes to the plain function beside it. -/
import Derived.Test.YtilbokbfcmeleaaPAx0
import Derived.Test.YtilbokbfcmeleaaPAx5
import Derived.Test.YtilbokbfcmeleaaPAx9
namespace Go.Proofs.Ytilbokbfcmeleaa.PA
open Go.RowKit Go.Proofs.YtilbokbfcmeleaaW.PrintWords Go.Proofs.YtilbokbfcmeleaaW.PrintLast Go.Proofs.YtilbokbfcmeleaaW.PrintMore
attribute [local go_sem] max2_int min2_int max_two min_two max_three min_three max_four min_four   -- for this text's walks alone
set_option linter.unusedVariables false
set_option linter.unusedSimpArgs false

/-! ### spec_MeetGroups: function 7 -/
mutual
def spec_MeetGroups.j0 : Nat → List (S48) → List (S48) → Int → Option ((List (S48)) × Int)
 | 0, _, _, _ => none
 | k + 1, x2, x3, x10 => if x10 = 0 then (spec_MeetGroups.l0 k x2 x3 (([] : List (S48))) 0) else (some (([] : List (S48)), x10))
def spec_MeetGroups.l0 : Nat → List (S48) → List (S48) → List (S48) → Int → Option ((List (S48)) × Int)
 | 0, _, _, _, _ => none
 | k + 1, x2, x3, x11, x12 => if x12 < (x2.length : Int) then (if 0 ≤ x12 then ((spec_l06Has.f k x3 ((rd_T48 x2 x12).f0.f0) ((rd_T48 x2 x12).f0.f1) ((rd_T48 x2 x12).f0.f2) ((rd_T48 x2 x12).f0.f3) ((rd_T48 x2 x12).f1.f0) ((rd_T48 x2 x12).f1.f1)).bind fun t289 => (if t289 = true then (if x11.length < 2932031007402 then (spec_MeetGroups.l0 k x2 x3 (x11 ++ [(⟨(⟨(rd_T48 x2 x12).f0.f0, (rd_T48 x2 x12).f0.f1, (rd_T48 x2 x12).f0.f2, (rd_T48 x2 x12).f0.f3⟩ : S44), (⟨(rd_T48 x2 x12).f1.f0, (rd_T48 x2 x12).f1.f1⟩ : S46)⟩ : S48)]) (wrap64 (x12 + 1))) else (none)) else (spec_MeetGroups.l0 k x2 x3 x11 (wrap64 (x12 + 1))))) else (none)) else (some (x11, 0))
end
def spec_MeetGroups.f (k : Nat) (a0 : Int) (a1_0 : Int) (a1_1 : Int) (a1_2 : Int) (l2 : List (S48)) (l3 : List (S48)) : Option ((List (S48)) × Int) := (spec_IsGroup.f k a0 a1_0 a1_1 a1_2 l2).bind fun t281 => (if t281 = true then ((spec_IsGroup.f k a0 a1_0 a1_1 a1_2 l3).bind fun t282 => ((spec_l06Code.f a0 a1_0 a1_1 a1_2 t282).bind fun t283 => (spec_MeetGroups.j0 k l2 l3 t283))) else ((spec_l06Code.f a0 a1_0 a1_1 a1_2 false).bind fun t284 => (spec_MeetGroups.j0 k l2 l3 t284)))
def spec_MeetGroups.T1 : Bool × List (List Nat × List Nat) := (true, [([], []), ([], []), ([], []), ([], []), ([], []), ([2, 3, 4], [2, 3, 4]), ([5, 5], [5]), ([6], [6]), ([6], [6]), ([6], [6]), ([7, 8, 9, 6, 6], [6, 7, 8, 9]), ([6, 10], [6, 10]), ([0, 1, 11, 10], [0, 1, 11]), ([12, 12, 0, 1, 2, 3, 4, 5, 6, 7, 8, 9, 10, 11, 12], [12])])
def spec_MeetGroups.B1 : List Nat := [0, 0, 0, 0, 0, 28, 60, 124, 124, 124, 1020, 2044, 4095, 8191]
theorem spec_MeetGroups.tab1 : rtab .any (opsOf Try.f7 1) = spec_MeetGroups.T1 := by kernel_rfl
theorem spec_MeetGroups.bits1 : waitsOk spec_MeetGroups.T1.2 spec_MeetGroups.B1 = true := by kernel_rfl
set_option maxHeartbeats 8000000 in
set_option maxRecDepth 100000 in
theorem spec_MeetGroups.calls (k : Nat) (a0 : Int) (a1_0 : Int) (a1_1 : Int) (a1_2 : Int) (A2 : Option Addr) (c2 : Nat) (l2 : List (S48)) (A3 : Option Addr) (c3 : Nat) (l3 : List (S48)) (r1 : List (S48)) (r2 : Int) (w : World) (hr2 : Kd.C k48 w A2 l2.length l2) (hc2 : l2.length ≤ c2) (hr3 : Kd.C k48 w A3 l3.length l3) (hc3 : l3.length ≤ c3) (h : spec_MeetGroups.f k a0 a1_0 a1_1 a1_2 l2 l3 = some (r1, r2)) :
  Calls Try.prog 7 #[.int .i64 a0, .agg #[.int .i64 a1_0, .int .i64 a1_1, .int .i64 a1_2], .slice A2 l2.length c2, .slice A3 l3.length c3] w fun e w' => ∃ v0_ : Value, e = .returned (.tuple #[v0_, .int .i64 r2]) ∧ Kd.R k48 48 w' w.heap.size (fun _ => True) v0_ r1 ∧ Below w.heap.size w w' := by
 have hu29 := Try.underlying29
 have hu48 := Try.underlying48
 have HR2 := Aside0.mk hr2
 have HC2 := Aside0.mk hc2
 clear hr2 hc2
 have HR3 := Aside0.mk hr3
 have HC3 := Aside0.mk hc3
 clear hr3 hc3
 have HB := asd (Below.refl w.heap.size w)
 have H : ((spec_IsGroup.f k a0 a1_0 a1_1 a1_2 l2).bind fun t281 => (if t281 = true then ((spec_IsGroup.f k a0 a1_0 a1_1 a1_2 l3).bind fun t282 => ((spec_l06Code.f a0 a1_0 a1_1 a1_2 t282).bind fun t283 => (spec_MeetGroups.j0 k l2 l3 t283))) else ((spec_l06Code.f a0 a1_0 a1_1 a1_2 false).bind fun t284 => (spec_MeetGroups.j0 k l2 l3 t284)))) = some (r1, r2) := h
 clear h
 have HC5 := Aside0.mk H
 clear H
 go_enter Try.func7, Try.ntmps7
 go_upto_region 1 with (first | ((with_reducible refine gd 5 rfl ?_); refine bx #[.int .i64 a1_0, .int .i64 a1_1, .int .i64 a1_2] 29 ?_; intro gb280 hg w6 BK280 hb; have GE280 := ngw0 hg HB; replace HB := bS0 HB hb; clear hb hg))
 (try simp only [Act.put, sA, sB, sC])
 go_cut [10] (fun v10 wc => ∃ (kq : Nat) (x10_4 : Int), v10 = .int .i64 x10_4 ∧ Aside0 (spec_MeetGroups.j0 kq l2 l3 x10_4 = some (r1, r2)) ∧ Aside0 (kq ≤ k) ∧ Aside0 (wc.heap[gb280]? = some (.cells #[.int .i64 a1_0, .int .i64 a1_1, .int .i64 a1_2] 29 (0, 0))) ∧ Aside0 (Below w.heap.size w wc))
 case first =>
  have H := HC5.out
  clear HC5
  obtain ⟨t281, A7, H⟩ := ob H
  try dsimp only at H
  by_cases c8 : t281 = true
  subst c8
  replace H := ifT H
  obtain ⟨t282, A9, H⟩ := ob H
  try dsimp only at H
  obtain ⟨t283, A10, H⟩ := ob H
  try dsimp only at H
  have H' := Aside0.mk H
  clear H
  rotate_left
  replace c8 := Bool.eq_false_iff.mpr c8
  subst c8
  replace H := ifF H
  obtain ⟨t284, A10, H⟩ := ob H
  try dsimp only at H
  have H' := Aside0.mk H
  clear H
  rotate_left
  all_goals
   try go_wp2
   replace BK280 := asd (blk_drew BK280.out)
   replace HB := asd (below_drew1 HB.out)
   refine sh 14 (eb3 BK280) (fun hHeld => ?_); refine with_tabW spec_MeetGroups.tab1 spec_MeetGroups.bits1 (fun HT_ HW_ => ?_)
   generalize w6.drew = w11 at BK280 HB hHeld ⊢
   refine pu 0 (some 13) (bt 14 1) HT_ ?_
   refine pu 2 (some 15) (bs 14 5) HT_ ?_
   refine pu 4 (some 17) (bs 14 21) HT_ ?_
   refine ta 1 (some 14) (bs 14 23) HT_ HW_ hHeld ?_
   refine ta 3 (some 16) (bt 14 5) HT_ HW_ hHeld ?_
   refine ro 5 (some 18) (bt 14 6) HT_ (fun K hK => ?_)
   refine gs Try.func19 #[.int .i64 a0, .agg #[.int .i64 a1_0, .int .i64 a1_1, .int .i64 a1_2], .slice A2 l2.length c2] ?_
   with_reducible refine (spec_IsGroup.calls _ _ _ _ _ _ _ _ _ _ ?side1 ?side2 A7.out).mono ?_
   (case side1 => exact ks (Kd.C_below HR2.out HB.out))
   (case side2 => exact HC2.out)
   rintro e w12 ⟨rfl, hb⟩
   refine ⟨_, rfl, ?_⟩
   replace BK280 := bB BK280 hb
   replace HB := bS1 HB GE280 hb
   (try clear hb)
   (try clear hb2)
   (try clear hk)
   (try clear hi)
   refine hK.out _ _ (eb3 BK280).out (fun hHeld => ?_)
   clear hK K
   refine norm_ (a' := ?_) ?_ ?_
   rotate_left
   ·show Act.put _ (some 18) _ = _
    simp only [Act.put, sA, sB, sC, i64_w, i32_w]
    rfl
   refine pu 6 (some 19) (bt 14 7) HT_ ?_
  focus
   refine pu 7 (some 20) (bt 14 8) HT_ ?_
   refine pu 9 (some 22) (bs 14 767) HT_ ?_
   refine ta 8 (some 21) (bt 14 10) HT_ HW_ hHeld ?_
   refine ro 10 (some 23) (bt 14 11) HT_ (fun K hK => ?_)
   refine gs Try.func19 #[.int .i64 a0, .agg #[.int .i64 a1_0, .int .i64 a1_1, .int .i64 a1_2], .slice A3 l3.length c3] ?_
   with_reducible refine (spec_IsGroup.calls _ _ _ _ _ _ _ _ _ _ ?side1 ?side2 A9.out).mono ?_
   (case side1 => exact ks (Kd.C_below HR3.out HB.out))
   (case side2 => exact HC3.out)
   rintro e w13 ⟨rfl, hb⟩
   refine ⟨_, rfl, ?_⟩
   replace BK280 := bB BK280 hb
   replace HB := bS1 HB GE280 hb
   (try clear hb)
   (try clear hb2)
   (try clear hk)
   (try clear hi)
   refine hK.out _ _ (eb3 BK280).out (fun hHeld => ?_)
   clear hK K
   refine norm_ (a' := ?_) ?_ ?_
   rotate_left
   ·show Act.put _ (some 23) _ = _
    simp only [Act.put, sA, sB, sC, i64_w, i32_w]
    rfl
   refine pu 11 (some 24) (bt 14 12) HT_ ?_
   refine ro 12 (some 25) (bt 14 13) HT_ (fun K hK => ?_)
   refine gs Try.func18 #[.int .i64 a0, .agg #[.int .i64 a1_0, .int .i64 a1_1, .int .i64 a1_2], .bool t282] ?_
  rotate_left
  refine pf 7 (some 20) (bt 14 8) HT_ ?_
  refine pf 8 (some 21) (bt 14 9) HT_ ?_
  refine pf 9 (some 22) (bt 14 10) HT_ ?_
  refine pf 10 (some 23) (bt 14 11) HT_ ?_
  refine pu 11 (some 24) (bt 14 12) HT_ ?_
  refine ro 12 (some 25) (bt 14 13) HT_ (fun K hK => ?_)
  refine gs Try.func18 #[.int .i64 a0, .agg #[.int .i64 a1_0, .int .i64 a1_1, .int .i64 a1_2], .bool false] ?_
  rotate_left
  all_goals
   with_reducible refine (spec_l06Code.calls _ _ _ _ _ _ _ A10.out).mono ?_
   rintro e w14 ⟨rfl, hb⟩
   refine ⟨_, rfl, ?_⟩
   replace BK280 := bB BK280 hb
   replace HB := bS1 HB GE280 hb
   (try clear hb)
   (try clear hb2)
   (try clear hk)
   (try clear hi)
   refine hK.out _ _ (eb3 BK280).out (fun hHeld => ?_)
   clear hK K
   refine norm_ (a' := ?_) ?_ ?_
   rotate_left
   ·show Act.put _ (some 25) _ = _
    simp only [Act.put, sA, sB, sC, i64_w, i32_w]
    rfl
   refine pu 13 (some 10) (bt 14 14) HT_ ?_
   refine done_ (done_of HT_.out (by kernel_rfl)) ?_
   try go_wp2
   go_meet
  ·case rel => exact ⟨_, (t283), (by first | rfl | (simp; done) | (simp [*]; done)), H', ⟨by first | omega | exact Nat.le_refl _⟩, ⟨bkp BK280⟩, ⟨bbw1 HB GE280⟩⟩
  ·case rel => exact ⟨_, (t284), (by first | rfl | (simp; done) | (simp [*]; done)), H', ⟨by first | omega | exact Nat.le_refl _⟩, ⟨bkp BK280⟩, ⟨bbw1 HB GE280⟩⟩
 case rest =>
  clear HC5
  try clear c1
  try clear c2
  try clear p2
  try clear c3
  try clear c7
  try clear c8
  try clear c18
  obtain ⟨kq, x10_4, rfl, HA, HJ4, BK280, HB⟩ := hcut
  cases kq with
  | zero => exact absurd HA.out (by simp [spec_MeetGroups.j0])
  | succ kj4 =>
   have H := HA.out
   clear HA
   simp only [spec_MeetGroups.j0] at H
   by_cases c19 : x10_4 = 0
   ·rw [if_pos c19] at H
    have c19b0 : (x10_4 == 0) = true := beq_iff_eq.mpr c19
    have c19b1 : (x10_4 != 0) = false := bne_eq_false_iff_eq.mpr c19
    clear c19
    obtain ⟨y285, hy285⟩ : ∃ y_ : List (S48), y_ = (([] : List (S48))) := ⟨_, rfl⟩
    replace H : (spec_MeetGroups.l0 kj4 l2 l3 y285 0) = some (r1, r2) := by first | (rw [hy285]; with_reducible exact H) | (have H2_ := (Option.bind_some _ _).symm.trans H; rw [hy285]; with_reducible exact H2_) | (have H2_ := (Option.bind_some _ _).symm.trans H; with_reducible exact H2_) | with_reducible exact H | (rw [hy285]; exact H) | exact H
    have Ny285 := Aside0.mk hy285
    clear hy285
    have H' := Aside0.mk H
    clear H
    go_wp2_with (first | ((with_reducible refine gd 29 rfl ?_); refine Kd.R_lit k48 _ 48 ?hg (N := 29) ?hd (xs := ([] : List (S48))) (inner := []) (ok := fun _ => True) (okp := fun _ => True) ?hr ?hp (fun _ hk => hk) trivial (Below.refl _ _) (Nat.le_refl _) (by simp) ?_; (case hd => rfl); (case hg => rfl); (case hr => first | (go_simp; done) | (go_simp; rfl)); (case hp => exact (Reps.none _ _)); intro v286 w20 ho21 hb hg_ hnew_; clear hg_ hnew_; (first | rw [← Ny285.out] at ho21 | (simp only [Int.reduceToNat] at ho21; rw [← Ny285.out] at ho21)); have HO287 := asd (Kd.R_lower ho21 (bsz1 HB GE280)); replace BK280 := bB BK280 hb; replace HB := bS1 HB GE280 hb; clear hb ho21))
    go_loopg [11, 12] kj4 (fun kq v11 v12 w' => ∃ (x11_2 : List (S48)) (x12_2 : Int), v12 = .int .i64 x12_2 ∧ Aside0 (spec_MeetGroups.l0 kq l2 l3 x11_2 x12_2 = some (r1, r2)) ∧ Aside0 (kq ≤ kj4) ∧ Aside0 (Kd.R k48 48 w' w.heap.size (fun _ => True) v11 x11_2) ∧ Aside0 (w'.heap[gb280]? = some (.cells #[.int .i64 a1_0, .int .i64 a1_1, .int .i64 a1_2] 29 (0, 0))) ∧ Aside0 (Below w.heap.size w w'))
    case atStart => exact ⟨(y285), (0), (by first | rfl | (simp; done) | (simp [*]; done)), H', ⟨Nat.le_refl _⟩, ⟨by (with_reducible repeat (first | apply Kd.R_alloc | apply Kd.R_drewN | apply Kd.R_drew)); exact HO287.out⟩, ⟨bkp BK280⟩, ⟨bbw1 HB GE280⟩⟩
    case round =>
     clear H'
     try clear c1
     try clear c2
     try clear p2
     try clear c3
     try clear c7
     try clear c8
     try clear c18
     try clear c19
     try clear c19b0
     try clear c19b1
     try clear p2
     obtain ⟨x11_2, x12_2, rfl, HA, HK2, HO_11, BK280, HB⟩ := hrel
     cases gk with
     | zero => exact absurd HA.out (by simp [spec_MeetGroups.l0])
     | succ k2 =>
      have H := HA.out
      clear HA
      simp only [spec_MeetGroups.l0] at H
      by_cases c22 : x12_2 < (l2.length : Int)
      rw [if_pos c22] at H
      have c22b0 := decide_eq_true c22
      clear c22
      by_cases c23 : 0 ≤ x12_2
      rw [if_pos c23] at H
      have c23b0 := decide_eq_true c23
      clear c23
      obtain ⟨t289, A24, H⟩ := ob H
      try dsimp only at H
      by_cases c25 : t289 = true
      subst c25
      replace H := ifT H
      by_cases c26 : x11_2.length < 2932031007402
      rw [if_pos c26] at H
      have LMc26 := Aside0.mk c26
      clear c26
      obtain ⟨y291, hy291⟩ : ∃ y_ : List (S48), y_ = (x11_2 ++ [(⟨(⟨(rd_T48 l2 x12_2).f0.f0, (rd_T48 l2 x12_2).f0.f1, (rd_T48 l2 x12_2).f0.f2, (rd_T48 l2 x12_2).f0.f3⟩ : S44), (⟨(rd_T48 l2 x12_2).f1.f0, (rd_T48 l2 x12_2).f1.f1⟩ : S46)⟩ : S48)]) := ⟨_, rfl⟩
      replace H : (spec_MeetGroups.l0 k2 l2 l3 y291 (wrap64 (x12_2 + 1))) = some (r1, r2) := by first | (rw [hy291]; with_reducible exact H) | (have H2_ := (Option.bind_some _ _).symm.trans H; rw [hy291]; with_reducible exact H2_) | (have H2_ := (Option.bind_some _ _).symm.trans H; with_reducible exact H2_) | with_reducible exact H | (rw [hy291]; exact H) | exact H
      have Ny291 := Aside0.mk hy291
      clear hy291
      have H' := Aside0.mk H
      clear H
      rotate_left
      ·rw [if_neg c26] at H
       exact absurd H (by simp)
      replace c25 := Bool.eq_false_iff.mpr c25
      subst c25
      replace H := ifF H
      have H' := Aside0.mk H
      clear H
      rotate_left
      ·rw [if_neg c23] at H
       exact absurd H (by simp)
      rw [if_neg c22] at H
      have c22b0 := decide_eq_false c22
      clear c22
      rotate_left
      rotate_left 2
      ·simp only [Option.some.injEq, Prod.mk.injEq] at H
       obtain ⟨rfl, rfl⟩ := H
       go_wp2
       go_ret2
       exact ⟨_, by first | rfl | (simp [errW_none, errW_some] <;> rfl) | (simp [*, errW_none, errW_some] <;> rfl), by (with_reducible repeat (first | apply Kd.R_alloc | apply Kd.R_drewN | apply Kd.R_drew)); exact HO_11.out, bbw1 HB GE280⟩
      all_goals
       obtain ⟨p288, q288, ad288, e288, hx288_0, hx288_1, hx288_2, hx288_3, hx288_4, hx288_5⟩ := at_T48x HR2.out HB x12_2
       cases e288
      go_wp2_with (first | ((with_reducible refine gate_callee (f := 20) rfl ?_); refine gl 41 Try.func20 #[.slice A3 l3.length c3, .agg #[.int .i64 ((rd_T48 l2 x12_2).f0.f0), .int .i64 ((rd_T48 l2 x12_2).f0.f1), .int .i64 ((rd_T48 l2 x12_2).f0.f2), .int .i64 ((rd_T48 l2 x12_2).f0.f3), .int .i64 ((rd_T48 l2 x12_2).f1.f0), .int .i64 ((rd_T48 l2 x12_2).f1.f1)]] ?_; (with_reducible refine (spec_l06Has.calls _ _ _ _ _ _ _ _ _ _ _ _ ?side1 ?side2 A24.out).mono ?_); (case side1 => exact ks (Kd.C_below HR3.out HB.out)); (case side2 => exact HC3.out); rintro e w27 ⟨rfl, hb⟩; refine ⟨_, rfl, ?_⟩; replace HO_11 := asd (Kd.R_below (kr HO_11) hb); replace BK280 := bB BK280 hb; replace HB := bS1 HB GE280 hb; (try clear hb); obtain ⟨p290, q290, ad290, e290, hx290_0, hx290_1, hx290_2, hx290_3, hx290_4, hx290_5⟩ := at_T48x HR2.out HB x12_2; obtain rfl : ad288 = ad290 := (by injection e290)) | ((with_reducible refine gate_builtin (b := .append) (xs := #[.tmp 42, .tmp 47]) rfl ?_); at_builtin; refine Kd.R_append k48 (w0 := w) w.heap.size rfl (.tmp 42) (.tmp 47) 26 48 (.agg #[(.int .i64 0), (.int .i64 0), (.int .i64 0), (.int .i64 0), (.int .i64 0), (.int .i64 0)]) 48 rfl Try.underlying26 info48 rfl (by decide) (by omega) u11 x11_2 (⟨(⟨(rd_T48 l2 x12_2).f0.f0, (rd_T48 l2 x12_2).f0.f1, (rd_T48 l2 x12_2).f0.f2, (rd_T48 l2 x12_2).f0.f3⟩ : S44), (⟨(rd_T48 l2 x12_2).f1.f0, (rd_T48 l2 x12_2).f1.f1⟩ : S46)⟩ : S48) [.int .i64 ((rd_T48 l2 x12_2).f0.f0), .int .i64 ((rd_T48 l2 x12_2).f0.f1), .int .i64 ((rd_T48 l2 x12_2).f0.f2), .int .i64 ((rd_T48 l2 x12_2).f0.f3), .int .i64 ((rd_T48 l2 x12_2).f1.f0), .int .i64 ((rd_T48 l2 x12_2).f1.f1)] (fun _ => True) (fun _ => False) rfl rfl ?aP (fun _ hk => hk.elim) ?aF ?aO ?aB ?aS ?aL ?_; (case aP => exact k48_mkM _ _ _ (⟨(⟨(rd_T48 l2 x12_2).f0.f0, (rd_T48 l2 x12_2).f0.f1, (rd_T48 l2 x12_2).f0.f2, (rd_T48 l2 x12_2).f0.f3⟩ : S44), (⟨(rd_T48 l2 x12_2).f1.f0, (rd_T48 l2 x12_2).f1.f1⟩ : S46)⟩ : S48)); (case aB => exact (bbw1 HB GE280)); (case aF => exact (fun _ _ => trivial)); (case aO => exact (kr HO_11)); (case aS => exact (bsz1 HB GE280)); (case aL => have := LMc26.out; omega); intro v292 w28 ho hb hg hat; rw [← Ny291.out] at ho; have n0_ := asd (blk_grown (g := gb280) (o := .cells #[.int .i64 a1_0, .int .i64 a1_1, .int .i64 a1_2] 29 (0, 0)) (bkp BK280) hg (Kd.R_ne HO_11.out BK280.out (by decide))); have n1_ := asd (hb); have n2_ := asd (ho); clear BK280; clear HB; clear HO_11; have BK280 := n0_; have HB := n1_; have HO293 := n2_; clear n0_ n1_ n2_; clear ho hb hg hat))
      rotate_left
      go_wp2_with (first | ((with_reducible refine gate_callee (f := 20) rfl ?_); refine gl 41 Try.func20 #[.slice A3 l3.length c3, .agg #[.int .i64 ((rd_T48 l2 x12_2).f0.f0), .int .i64 ((rd_T48 l2 x12_2).f0.f1), .int .i64 ((rd_T48 l2 x12_2).f0.f2), .int .i64 ((rd_T48 l2 x12_2).f0.f3), .int .i64 ((rd_T48 l2 x12_2).f1.f0), .int .i64 ((rd_T48 l2 x12_2).f1.f1)]] ?_; (with_reducible refine (spec_l06Has.calls _ _ _ _ _ _ _ _ _ _ _ _ ?side1 ?side2 A24.out).mono ?_); (case side1 => exact ks (Kd.C_below HR3.out HB.out)); (case side2 => exact HC3.out); rintro e w29 ⟨rfl, hb⟩; refine ⟨_, rfl, ?_⟩; replace HO_11 := asd (Kd.R_below (kr HO_11) hb); replace BK280 := bB BK280 hb; replace HB := bS1 HB GE280 hb; (try clear hb)))
      rotate_left
      all_goals
       go_roundg k2
       case measure => have := HJ4.out; have := HK2.out; omega
      ·case rel => exact ⟨(y291), (wrap64 (x12_2 + 1)), (by first | rfl | (simp; done) | (simp [*]; done)), H', ⟨by have := HJ4.out; have := HK2.out; omega⟩, ⟨by (with_reducible repeat (first | apply Kd.R_alloc | apply Kd.R_drewN | apply Kd.R_drew)); exact HO293.out⟩, ⟨bkp BK280⟩, ⟨bbw1 HB GE280⟩⟩
      ·case rel => exact ⟨(x11_2), (wrap64 (x12_2 + 1)), (by first | rfl | (simp; done) | (simp [*]; done)), H', ⟨by have := HJ4.out; have := HK2.out; omega⟩, ⟨by (with_reducible repeat (first | apply Kd.R_alloc | apply Kd.R_drewN | apply Kd.R_drew)); exact HO_11.out⟩, ⟨bkp BK280⟩, ⟨bbw1 HB GE280⟩⟩
   ·rw [if_neg c19] at H
    have c19b0 : (x10_4 == 0) = false := beq_eq_false_iff_ne.mpr c19
    have c19b1 : (x10_4 != 0) = true := bne_iff_ne.mpr c19
    simp only [Option.some.injEq, Prod.mk.injEq] at H
    obtain ⟨rfl, rfl⟩ := H
    go_wp2
    go_ret2
    exact ⟨_, by first | rfl | (simp [errW_none, errW_some] <;> rfl) | (simp [*, errW_none, errW_some] <;> rfl), by first | exact Kd.R_nil _ _ _ _ _ | exact Kd.N_nil _ _ _ _ _ | exact Kd.V_nil _ _ _ _ _ | exact Kd.Q_nil _ _ _ _ _ | exact Kd.S_nil _ _ _ _ _, bbw1 HB GE280⟩
/-! ### laws_toLattice: function 8 -/
def laws_toLattice.f (a0_0 : Int) (a0_1 : Int) (a0_2 : Int) : Option (Int × Int × Int) := some (a0_0, a0_1, a0_2)
set_option maxHeartbeats 8000000 in
set_option maxRecDepth 100000 in
theorem laws_toLattice.calls (a0_0 : Int) (a0_1 : Int) (a0_2 : Int) (r1 : Int) (r2 : Int) (r3 : Int) (w : World) (h : laws_toLattice.f a0_0 a0_1 a0_2 = some (r1, r2, r3)) :
  Calls Try.prog 8 #[.agg #[.int .i64 a0_0, .int .i64 a0_1, .int .i64 a0_2]] w fun e w' => e = .returned (.agg #[.int .i64 r1, .int .i64 r2, .int .i64 r3]) ∧ Below w.heap.size w w' := by
 have hu23 := Try.underlying23
 have hu29 := Try.underlying29
 have HB := asd (Below.refl w.heap.size w)
 have H : (some (a0_0, a0_1, a0_2)) = some (r1, r2, r3) := h
 clear h
 simp only [Option.some.injEq, Prod.mk.injEq] at H
 obtain ⟨rfl, rfl, rfl⟩ := H
 go_enter Try.func8, Try.ntmps8
 go_wp2_with (first | ((with_reducible refine gd 1 rfl ?_); refine bx #[.int .i64 a0_0, .int .i64 a0_1, .int .i64 a0_2] 23 ?_; intro gb294 hg w2 BK294 hb; have GE294 := ngw0 hg HB; replace HB := bS0 HB hb; clear hb hg) | ((with_reducible refine gd 2 rfl ?_); refine bx #[.int .i64 0, .int .i64 0, .int .i64 0] 29 ?_; intro gb295 hg w3 BK295 hb; have GE295 := ngw1 hg HB GE294; replace HB := bS1 HB GE294 hb; have NB294_295 := nlt hg BK294; have NB295_294 := nsy (nlt hg BK294); replace BK294 := bB BK294 hb; clear hb hg) | ((with_reducible refine gd 3 rfl ?_); refine bx #[.int .i64 0, .int .i64 0, .int .i64 0] 29 ?_; intro gb296 hg w4 BK296 hb; have GE296 := ngw2 hg HB GE294 GE295; replace HB := bS2 HB GE294 GE295 hb; have NB294_296 := nlt hg BK294; have NB296_294 := nsy (nlt hg BK294); replace BK294 := bB BK294 hb; have NB295_296 := nlt hg BK295; have NB296_295 := nsy (nlt hg BK295); replace BK295 := bB BK295 hb; clear hb hg; have hnb5 := NB294_295.out; have hnc5 := NB295_294.out; have hnb6 := NB294_296.out; have hnc6 := NB296_294.out; obtain ⟨hcz7_0, hcz7_1, hcz7_2, hfz7_0, hfz7_1, hfz7_2⟩ := bz3 BK294; have hnb8 := NB296_295.out; have hnc8 := NB295_296.out; obtain ⟨hcz9_0, hcz9_1, hcz9_2, hfz9_0, hfz9_1, hfz9_2⟩ := bz3 BK296; obtain ⟨hcz10_0, hcz10_1, hcz10_2, hfz10_0, hfz10_1, hfz10_2⟩ := bz3 BK295))
 refine bodyPost_ret (results_cell_row rfl _ _ gb295 29 #[.int .i64 a0_0, .int .i64 a0_1, .int .i64 a0_2] (0, 0) _ rfl (bq1 BK295 NB295_296) Try.underlying29 rfl (by kernel_rfl)) rfl ?_
 exact er (bbw3 HB GE294 GE295 GE296)
/-! ### laws_toMat: function 48 -/
def laws_toMat.f (a0_0 : Int) (a0_1 : Int) (a0_2 : Int) (a0_3 : Int) : Option (Int × Int × Int × Int) := some (a0_0, a0_1, a0_2, a0_3)
set_option maxHeartbeats 8000000 in
set_option maxRecDepth 100000 in
theorem laws_toMat.calls (a0_0 : Int) (a0_1 : Int) (a0_2 : Int) (a0_3 : Int) (r1 : Int) (r2 : Int) (r3 : Int) (r4 : Int) (w : World) (h : laws_toMat.f a0_0 a0_1 a0_2 a0_3 = some (r1, r2, r3, r4)) :
  Calls Try.prog 48 #[.agg #[.int .i64 a0_0, .int .i64 a0_1, .int .i64 a0_2, .int .i64 a0_3]] w fun e w' => e = .returned (.agg #[.int .i64 r1, .int .i64 r2, .int .i64 r3, .int .i64 r4]) ∧ Below w.heap.size w w' := by
 have hu50 := Try.underlying50
 have hu44 := Try.underlying44
 have HB := asd (Below.refl w.heap.size w)
 have H : (some (a0_0, a0_1, a0_2, a0_3)) = some (r1, r2, r3, r4) := h
 clear h
 simp only [Option.some.injEq, Prod.mk.injEq] at H
 obtain ⟨rfl, rfl, rfl, rfl⟩ := H
 go_enter Try.func48, Try.ntmps48
 go_wp2_with (first | ((with_reducible refine gd 1 rfl ?_); refine bx #[.int .i64 a0_0, .int .i64 a0_1, .int .i64 a0_2, .int .i64 a0_3] 50 ?_; intro gb297 hg w2 BK297 hb; have GE297 := ngw0 hg HB; replace HB := bS0 HB hb; clear hb hg) | ((with_reducible refine gd 2 rfl ?_); refine bx #[.int .i64 0, .int .i64 0, .int .i64 0, .int .i64 0] 44 ?_; intro gb298 hg w3 BK298 hb; have GE298 := ngw1 hg HB GE297; replace HB := bS1 HB GE297 hb; have NB297_298 := nlt hg BK297; have NB298_297 := nsy (nlt hg BK297); replace BK297 := bB BK297 hb; clear hb hg) | ((with_reducible refine gd 3 rfl ?_); refine bx #[.int .i64 0, .int .i64 0, .int .i64 0, .int .i64 0] 44 ?_; intro gb299 hg w4 BK299 hb; have GE299 := ngw2 hg HB GE297 GE298; replace HB := bS2 HB GE297 GE298 hb; have NB297_299 := nlt hg BK297; have NB299_297 := nsy (nlt hg BK297); replace BK297 := bB BK297 hb; have NB298_299 := nlt hg BK298; have NB299_298 := nsy (nlt hg BK298); replace BK298 := bB BK298 hb; clear hb hg; have hnb5 := NB297_298.out; have hnc5 := NB298_297.out; have hnb6 := NB297_299.out; have hnc6 := NB299_297.out; obtain ⟨hcz7_0, hcz7_1, hcz7_2, hcz7_3, hfz7_0, hfz7_1, hfz7_2, hfz7_3⟩ := bz4 BK297; have hnb8 := NB299_298.out; have hnc8 := NB298_299.out; obtain ⟨hcz9_0, hcz9_1, hcz9_2, hcz9_3, hfz9_0, hfz9_1, hfz9_2, hfz9_3⟩ := bz4 BK299; obtain ⟨hcz10_0, hcz10_1, hcz10_2, hcz10_3, hfz10_0, hfz10_1, hfz10_2, hfz10_3⟩ := bz4 BK298))
 refine bodyPost_ret (results_cell_row rfl _ _ gb298 44 #[.int .i64 a0_0, .int .i64 a0_1, .int .i64 a0_2, .int .i64 a0_3] (0, 0) _ rfl (bq1 BK298 NB298_299) Try.underlying44 rfl (by kernel_rfl)) rfl ?_
 exact er (bbw3 HB GE297 GE298 GE299)
/-! ### laws_toVec: function 49 -/
def laws_toVec.f (a0_0 : Int) (a0_1 : Int) : Option (Int × Int) := some (a0_0, a0_1)
set_option maxHeartbeats 8000000 in
set_option maxRecDepth 100000 in
theorem laws_toVec.calls (a0_0 : Int) (a0_1 : Int) (r1 : Int) (r2 : Int) (w : World) (h : laws_toVec.f a0_0 a0_1 = some (r1, r2)) :
  Calls Try.prog 49 #[.agg #[.int .i64 a0_0, .int .i64 a0_1]] w fun e w' => e = .returned (.agg #[.int .i64 r1, .int .i64 r2]) ∧ Below w.heap.size w w' := by
 have hu51 := Try.underlying51
 have hu46 := Try.underlying46
 have HB := asd (Below.refl w.heap.size w)
 have H : (some (a0_0, a0_1)) = some (r1, r2) := h
 clear h
 simp only [Option.some.injEq, Prod.mk.injEq] at H
 obtain ⟨rfl, rfl⟩ := H
 go_enter Try.func49, Try.ntmps49
 go_wp2_with (first | ((with_reducible refine gd 1 rfl ?_); refine bx #[.int .i64 a0_0, .int .i64 a0_1] 51 ?_; intro gb300 hg w2 BK300 hb; have GE300 := ngw0 hg HB; replace HB := bS0 HB hb; clear hb hg) | ((with_reducible refine gd 2 rfl ?_); refine bx #[.int .i64 0, .int .i64 0] 46 ?_; intro gb301 hg w3 BK301 hb; have GE301 := ngw1 hg HB GE300; replace HB := bS1 HB GE300 hb; have NB300_301 := nlt hg BK300; have NB301_300 := nsy (nlt hg BK300); replace BK300 := bB BK300 hb; clear hb hg) | ((with_reducible refine gd 3 rfl ?_); refine bx #[.int .i64 0, .int .i64 0] 46 ?_; intro gb302 hg w4 BK302 hb; have GE302 := ngw2 hg HB GE300 GE301; replace HB := bS2 HB GE300 GE301 hb; have NB300_302 := nlt hg BK300; have NB302_300 := nsy (nlt hg BK300); replace BK300 := bB BK300 hb; have NB301_302 := nlt hg BK301; have NB302_301 := nsy (nlt hg BK301); replace BK301 := bB BK301 hb; clear hb hg; have hnb5 := NB300_301.out; have hnc5 := NB301_300.out; have hnb6 := NB300_302.out; have hnc6 := NB302_300.out; obtain ⟨hcz7_0, hcz7_1, hfz7_0, hfz7_1⟩ := bz2 BK300; have hnb8 := NB302_301.out; have hnc8 := NB301_302.out; obtain ⟨hcz9_0, hcz9_1, hfz9_0, hfz9_1⟩ := bz2 BK302; obtain ⟨hcz10_0, hcz10_1, hfz10_0, hfz10_1⟩ := bz2 BK301))
 refine bodyPost_ret (results_cell_row rfl _ _ gb301 46 #[.int .i64 a0_0, .int .i64 a0_1] (0, 0) _ rfl (bq1 BK301 NB301_302) Try.underlying46 rfl (by kernel_rfl)) rfl ?_
 exact er (bbw3 HB GE300 GE301 GE302)
/-! ### laws_toMotion: function 21 -/
def laws_toMotion.f (a0_0 : Int) (a0_1 : Int) (a0_2 : Int) (a0_3 : Int) (a0_4 : Int) (a0_5 : Int) : Option (Int × Int × Int × Int × Int × Int) := (laws_toMat.f a0_0 a0_1 a0_2 a0_3).bind fun bt306 => ((laws_toVec.f a0_4 a0_5).bind fun bt310 => (some (bt306.1, bt306.2.1, bt306.2.2.1, bt306.2.2.2, bt310.1, bt310.2)))
set_option maxHeartbeats 8000000 in
set_option maxRecDepth 100000 in
theorem laws_toMotion.calls (a0_0 : Int) (a0_1 : Int) (a0_2 : Int) (a0_3 : Int) (a0_4 : Int) (a0_5 : Int) (r1 : Int) (r2 : Int) (r3 : Int) (r4 : Int) (r5 : Int) (r6 : Int) (w : World) (h : laws_toMotion.f a0_0 a0_1 a0_2 a0_3 a0_4 a0_5 = some (r1, r2, r3, r4, r5, r6)) :
  Calls Try.prog 21 #[.agg #[.int .i64 a0_0, .int .i64 a0_1, .int .i64 a0_2, .int .i64 a0_3, .int .i64 a0_4, .int .i64 a0_5]] w fun e w' => e = .returned (.agg #[.int .i64 r1, .int .i64 r2, .int .i64 r3, .int .i64 r4, .int .i64 r5, .int .i64 r6]) ∧ Below w.heap.size w w' := by
 have hu53 := Try.underlying53
 have hu48 := Try.underlying48
 have hu50 := Try.underlying50
 have hu44 := Try.underlying44
 have hu51 := Try.underlying51
 have hu46 := Try.underlying46
 have HB := asd (Below.refl w.heap.size w)
 have H : ((laws_toMat.f a0_0 a0_1 a0_2 a0_3).bind fun bt306 => ((laws_toVec.f a0_4 a0_5).bind fun bt310 => (some (bt306.1, bt306.2.1, bt306.2.2.1, bt306.2.2.2, bt310.1, bt310.2)))) = some (r1, r2, r3, r4, r5, r6) := h
 clear h
 obtain ⟨⟨t306, t307, t308, t309⟩, A2, H⟩ := ob H
 try dsimp only at H
 obtain ⟨⟨t310, t311⟩, A3, H⟩ := ob H
 try dsimp only at H
 simp only [Option.some.injEq, Prod.mk.injEq] at H
 obtain ⟨rfl, rfl, rfl, rfl, rfl, rfl⟩ := H
 go_enter Try.func21, Try.ntmps21
 go_wp2_with (first | ((with_reducible refine gd 1 rfl ?_); refine bx #[.int .i64 a0_0, .int .i64 a0_1, .int .i64 a0_2, .int .i64 a0_3, .int .i64 a0_4, .int .i64 a0_5] 53 ?_; intro gb303 hg w4 BK303 hb; have GE303 := ngw0 hg HB; replace HB := bS0 HB hb; clear hb hg) | ((with_reducible refine gd 2 rfl ?_); refine bx #[.int .i64 0, .int .i64 0, .int .i64 0, .int .i64 0, .int .i64 0, .int .i64 0] 48 ?_; intro gb304 hg w5 BK304 hb; have GE304 := ngw1 hg HB GE303; replace HB := bS1 HB GE303 hb; have NB303_304 := nlt hg BK303; have NB304_303 := nsy (nlt hg BK303); replace BK303 := bB BK303 hb; clear hb hg) | ((with_reducible refine gd 3 rfl ?_); refine bx #[.int .i64 0, .int .i64 0, .int .i64 0, .int .i64 0, .int .i64 0, .int .i64 0] 48 ?_; intro gb305 hg w6 BK305 hb; have GE305 := ngw2 hg HB GE303 GE304; replace HB := bS2 HB GE303 GE304 hb; have NB303_305 := nlt hg BK303; have NB305_303 := nsy (nlt hg BK303); replace BK303 := bB BK303 hb; have NB304_305 := nlt hg BK304; have NB305_304 := nsy (nlt hg BK304); replace BK304 := bB BK304 hb; clear hb hg; have hnb7 := NB303_304.out; have hnc7 := NB304_303.out; have hnb8 := NB303_305.out; have hnc8 := NB305_303.out; obtain ⟨hcz9_0, hcz9_1, hcz9_2, hcz9_3, hcz9_4, hcz9_5, hfz9_0, hfz9_1, hfz9_2, hfz9_3, hfz9_4, hfz9_5⟩ := bz6 BK303) | ((with_reducible refine gate_callee (f := 48) rfl ?_); refine gl 6 Try.func48 #[.agg #[.int .i64 a0_0, .int .i64 a0_1, .int .i64 a0_2, .int .i64 a0_3]] ?_; (with_reducible refine (laws_toMat.calls _ _ _ _ _ _ _ _ _ A2.out).mono ?_); rintro e w10 ⟨rfl, hb⟩; refine ⟨_, rfl, ?_⟩; replace BK303 := bB BK303 hb; replace BK304 := bB BK304 hb; replace BK305 := bB BK305 hb; replace HB := bS3 HB GE303 GE304 GE305 hb; (try clear hb); have hnb11 := NB305_304.out; have hnc11 := NB304_305.out; obtain ⟨hcz12_0, hcz12_1, hcz12_2, hcz12_3, hcz12_4, hcz12_5, hfz12_0, hfz12_1, hfz12_2, hfz12_3, hfz12_4, hfz12_5⟩ := bz6 BK305; obtain ⟨hcz13_0, hcz13_1, hcz13_2, hcz13_3, hcz13_4, hcz13_5, hfz13_0, hfz13_1, hfz13_2, hfz13_3, hfz13_4, hfz13_5⟩ := bz6 BK303) | ((with_reducible refine gate_callee (f := 49) rfl ?_); refine gl 10 Try.func49 #[.agg #[.int .i64 a0_4, .int .i64 a0_5]] ?_; (with_reducible refine (laws_toVec.calls _ _ _ _ _ A3.out).mono ?_); rintro e w14 ⟨rfl, hb⟩; refine ⟨_, rfl, ?_⟩; replace BK303 := asd (blk_below (g := gb303) (o := .cells #[.int .i64 a0_0, .int .i64 a0_1, .int .i64 a0_2, .int .i64 a0_3, .int .i64 a0_4, .int .i64 a0_5] 53 (0, 0)) (bq1 BK303 NB303_305) hb); replace BK304 := asd (blk_below (g := gb304) (o := .cells #[.int .i64 0, .int .i64 0, .int .i64 0, .int .i64 0, .int .i64 0, .int .i64 0] 48 (0, 0)) (bq1 BK304 NB304_305) hb); replace BK305 := asd (blk_below (g := gb305) (o := .cells #[.int .i64 t306, .int .i64 t307, .int .i64 t308, .int .i64 t309, .int .i64 0, .int .i64 0] 48 (0, 0)) (bq0 BK305) hb); replace HB := bS3 HB GE303 GE304 GE305 hb; (try clear hb); obtain ⟨hcz15_0, hcz15_1, hcz15_2, hcz15_3, hcz15_4, hcz15_5, hfz15_0, hfz15_1, hfz15_2, hfz15_3, hfz15_4, hfz15_5⟩ := bz6 BK305; obtain ⟨hcz16_0, hcz16_1, hcz16_2, hcz16_3, hcz16_4, hcz16_5, hfz16_0, hfz16_1, hfz16_2, hfz16_3, hfz16_4, hfz16_5⟩ := bz6 BK304))
 refine bodyPost_ret (results_cell_row rfl _ _ gb304 48 #[.int .i64 t306, .int .i64 t307, .int .i64 t308, .int .i64 t309, .int .i64 t310, .int .i64 t311] (0, 0) _ rfl (bq1 BK304 NB304_305) Try.underlying48 rfl (by kernel_rfl)) rfl ?_
 exact er (bbw3 HB GE303 GE304 GE305)
/-! ### laws_toMotionS: function 9 -/
def laws_toMotionS.l0 : Nat → List (S53) → List (S48) → Int → Option ((List (S48)))
 | 0, _, _, _ => none
 | k + 1, x0, x3, x4 => if x4 < (x0.length : Int) then (if 0 ≤ x4 then ((laws_toMotion.f ((rd_T53 x0 x4).f0.f0) ((rd_T53 x0 x4).f0.f1) ((rd_T53 x0 x4).f0.f2) ((rd_T53 x0 x4).f0.f3) ((rd_T53 x0 x4).f1.f0) ((rd_T53 x0 x4).f1.f1)).bind fun bt316 => (if x4 < (x3.length : Int) then (laws_toMotionS.l0 k x0 (x3.set (x4 : Int).toNat (⟨(⟨bt316.1, bt316.2.1, bt316.2.2.1, bt316.2.2.2.1⟩ : S44), (⟨bt316.2.2.2.2.1, bt316.2.2.2.2.2⟩ : S46)⟩ : S48)) (wrap64 (x4 + 1))) else (none))) else (none)) else (some x3)
def laws_toMotionS.f (k : Nat) (l0 : List (S53)) : Option ((List (S48))) := if 0 ≤ (l0.length : Int) then (if ((l0.length : Int) : Int).toNat ≤ 5864062014805 then (laws_toMotionS.l0 k l0 (List.replicate ((l0.length : Int) : Int).toNat z48) 0) else (none)) else (none)
set_option maxHeartbeats 8000000 in
set_option maxRecDepth 100000 in
theorem laws_toMotionS.calls (k : Nat) (A0 : Option Addr) (c0 : Nat) (l0 : List (S53)) (r : List (S48)) (w : World) (hr0 : Kd.C k53 w A0 l0.length l0) (hc0 : l0.length ≤ c0) (h : laws_toMotionS.f k l0 = some r) :
  Calls Try.prog 9 #[.slice A0 l0.length c0] w fun e w' => ∃ v0_ : Value, e = .returned (v0_) ∧ Kd.R k48 48 w' w.heap.size (fun _ => True) v0_ r ∧ Below w.heap.size w w' := by
 have hu53 := Try.underlying53
 have hu48 := Try.underlying48
 have HR0 := Aside0.mk hr0
 have HC0 := Aside0.mk hc0
 clear hr0 hc0
 have HB := asd (Below.refl w.heap.size w)
 have H : (if 0 ≤ (l0.length : Int) then (if ((l0.length : Int) : Int).toNat ≤ 5864062014805 then (laws_toMotionS.l0 k l0 (List.replicate ((l0.length : Int) : Int).toNat z48) 0) else (none)) else (none)) = some r := h
 clear h
 by_cases c2 : 0 ≤ (l0.length : Int)
 ·rw [if_pos c2] at H
  have c2b0 := eq_true c2
  have c2b1 := decide_eq_true c2
  clear c2
  by_cases c3 : ((l0.length : Int) : Int).toNat ≤ 5864062014805
  ·rw [if_pos c3] at H
   have c3b0 := eq_true c3
   have c3b1 := decide_eq_true c3
   clear c3
   obtain ⟨y312, hy312⟩ : ∃ y_ : List (S48), y_ = (List.replicate ((l0.length : Int) : Int).toNat z48) := ⟨_, rfl⟩
   replace H : (laws_toMotionS.l0 k l0 y312 0) = some r := by first | (rw [hy312]; with_reducible exact H) | (have H2_ := (Option.bind_some _ _).symm.trans H; rw [hy312]; with_reducible exact H2_) | (have H2_ := (Option.bind_some _ _).symm.trans H; with_reducible exact H2_) | with_reducible exact H | (rw [hy312]; exact H) | exact H
   have Ny312 := Aside0.mk hy312
   clear hy312
   have H' := Aside0.mk H
   clear H
   go_enter Try.func9, Try.ntmps9
   go_wp2_with (first | ((with_reducible refine gd 7 rfl ?_); refine Kd.R_make k48 _ 48 rfl (N := 7) rfl 26 _ _ rfl (l0.length : Int) rfl rfl Try.underlying26 (.agg #[(.int .i64 0), (.int .i64 0), (.int .i64 0), (.int .i64 0), (.int .i64 0), (.int .i64 0)]) 48 info48 rfl (by decide) (by omega) z48 (ok := fun _ => True) (okp := fun _ => True) (k48_mkM _ _ _ z48 ) (fun _ hk => hk) trivial (od) (Nat.le_trans (Nat.mul_le_mul_right _ (od : (l0.length : Int).toNat ≤ 5864062014805)) (by omega)) (Below.refl _ _) (Nat.le_refl _) ?_; intro v313 w4 ho5 hb hg_ hnew_; clear hg_ hnew_; (first | rw [← Ny312.out] at ho5 | (simp only [Int.reduceToNat] at ho5; rw [← Ny312.out] at ho5)); have HO314 := asd (Kd.R_lower ho5 (bsz0 HB)); replace HB := bS0 HB hb; clear hb ho5))
   go_loopg [4] k (fun kq v4 w' => ∃ (x3_1 : List (S48)) (x4_1 : Int), v4 = .int .i64 x4_1 ∧ Aside0 (laws_toMotionS.l0 kq l0 x3_1 x4_1 = some r) ∧ Aside0 (kq ≤ k) ∧ Aside0 (Kd.R k48 48 w' w.heap.size (fun _ => True) v313 x3_1) ∧ Aside0 (Below w.heap.size w w'))
   case atStart => exact ⟨(y312), (0), (by first | rfl | (simp; done) | (simp [*]; done)), H', ⟨Nat.le_refl _⟩, ⟨by (with_reducible repeat (first | apply Kd.R_alloc | apply Kd.R_drewN | apply Kd.R_drew)); exact HO314.out⟩, ⟨bbw0 HB⟩⟩
   case round =>
    clear H'
    try clear c2
    try clear c2b0
    try clear c2b1
    try clear p2
    try clear c3
    try clear c3b0
    try clear c3b1
    obtain ⟨x3_1, x4_1, rfl, HA, HK1, HO_3, HB⟩ := hrel
    cases gk with
    | zero => exact absurd HA.out (by simp [laws_toMotionS.l0])
    | succ k1 =>
     have H := HA.out
     clear HA
     simp only [laws_toMotionS.l0] at H
     by_cases c6 : x4_1 < (l0.length : Int)
     ·rw [if_pos c6] at H
      have c6b0 := decide_eq_true c6
      clear c6
      by_cases c7 : 0 ≤ x4_1
      ·rw [if_pos c7] at H
       have c7b0 := decide_eq_true c7
       clear c7
       obtain ⟨⟨t316, t317, t318, t319, t320, t321⟩, A8, H⟩ := ob H
       try dsimp only at H
       by_cases c9 : x4_1 < (x3_1.length : Int)
       ·rw [if_pos c9] at H
        have c9b0 := decide_eq_true c9
        clear c9
        obtain ⟨y322, hy322⟩ : ∃ y_ : List (S48), y_ = (x3_1.set (x4_1 : Int).toNat (⟨(⟨t316, t317, t318, t319⟩ : S44), (⟨t320, t321⟩ : S46)⟩ : S48)) := ⟨_, rfl⟩
        replace H : (laws_toMotionS.l0 k1 l0 y322 (wrap64 (x4_1 + 1))) = some r := by first | (rw [hy322]; with_reducible exact H) | (have H2_ := (Option.bind_some _ _).symm.trans H; rw [hy322]; with_reducible exact H2_) | (have H2_ := (Option.bind_some _ _).symm.trans H; with_reducible exact H2_) | with_reducible exact H | (rw [hy322]; exact H) | exact H
        have Ny322 := Aside0.mk hy322
        clear hy322
        have H' := Aside0.mk H
        clear H
        obtain ⟨p315, q315, ad315, e315, hx315_0, hx315_1, hx315_2, hx315_3, hx315_4, hx315_5⟩ := at_T53x HR0.out HB x4_1
        cases e315
        go_wp2_with (first | ((with_reducible refine gate_callee (f := 21) rfl ?_); refine gl 20 Try.func21 #[.agg #[.int .i64 ((rd_T53 l0 x4_1).f0.f0), .int .i64 ((rd_T53 l0 x4_1).f0.f1), .int .i64 ((rd_T53 l0 x4_1).f0.f2), .int .i64 ((rd_T53 l0 x4_1).f0.f3), .int .i64 ((rd_T53 l0 x4_1).f1.f0), .int .i64 ((rd_T53 l0 x4_1).f1.f1)]] ?_; (with_reducible refine (laws_toMotion.calls _ _ _ _ _ _ _ _ _ _ _ _ _ A8.out).mono ?_); rintro e w11 ⟨rfl, hb⟩; refine ⟨_, rfl, ?_⟩; replace HO_3 := asd (Kd.R_below (kr HO_3) hb); replace HB := bS0 HB hb; (try clear hb); have p10 : 0 ≤ (x4_1 : Int) := od; have q10 : (x4_1 : Int) < ((x3_1.length : Int) : Int) := od; obtain ⟨go10, co10, eo10, gb10, gl10, cl10, HG10⟩ := Kd.R_form HO_3.out (by omega); (first | cases eo10 | (injection eo10 with ea_ en_ ec_; (first | subst ea_ | (injection ea_ with ea_; subst ea_)); subst ec_; clear en_)); have GB10 := Aside0.mk gb10; have GG10 := Aside0.mk HG10; clear gb10 gl10 HG10; obtain ⟨ce10, hcl10, hM10, hcc10, hfr10⟩ := Kd.R_elem HO_3.out z48 (x4_1 : Int) p10 q10; obtain rfl := k48_openM hM10; have hx10_0 : w11.cell? ⟨go10, (x4_1 : Int).toNat * 6, none⟩ = some (.int .i64 ((rd_T48 x3_1 x4_1).f0.f0)) := hcc10 0 _ rfl; have hx10_1 : w11.cell? ⟨go10, (x4_1 : Int).toNat * 6 + 1, none⟩ = some (.int .i64 ((rd_T48 x3_1 x4_1).f0.f1)) := hcc10 1 _ rfl; have hx10_2 : w11.cell? ⟨go10, (x4_1 : Int).toNat * 6 + 2, none⟩ = some (.int .i64 ((rd_T48 x3_1 x4_1).f0.f2)) := hcc10 2 _ rfl; have hx10_3 : w11.cell? ⟨go10, (x4_1 : Int).toNat * 6 + 3, none⟩ = some (.int .i64 ((rd_T48 x3_1 x4_1).f0.f3)) := hcc10 3 _ rfl; have hx10_4 : w11.cell? ⟨go10, (x4_1 : Int).toNat * 6 + 4, none⟩ = some (.int .i64 ((rd_T48 x3_1 x4_1).f1.f0)) := hcc10 4 _ rfl; have hx10_5 : w11.cell? ⟨go10, (x4_1 : Int).toNat * 6 + 5, none⟩ = some (.int .i64 ((rd_T48 x3_1 x4_1).f1.f1)) := hcc10 5 _ rfl; have hf10_0 : w11.frozen? ⟨go10, (x4_1 : Int).toNat * 6, none⟩ = false := hfr10 0; have hf10_1 : w11.frozen? ⟨go10, (x4_1 : Int).toNat * 6 + 1, none⟩ = false := hfr10 1; have hf10_2 : w11.frozen? ⟨go10, (x4_1 : Int).toNat * 6 + 2, none⟩ = false := hfr10 2; have hf10_3 : w11.frozen? ⟨go10, (x4_1 : Int).toNat * 6 + 3, none⟩ = false := hfr10 3; have hf10_4 : w11.frozen? ⟨go10, (x4_1 : Int).toNat * 6 + 4, none⟩ = false := hfr10 4; have hf10_5 : w11.frozen? ⟨go10, (x4_1 : Int).toNat * 6 + 5, none⟩ = false := hfr10 5; clear hcl10 hcc10 hfr10 hM10; replace p10 := eq_true p10; replace q10 := eq_true q10; have HX12 := asd (show Kd.R k48 48 w11 w.heap.size (fun _ => True) (.slice (some ⟨go10, 0, none⟩) x3_1.length co10) x3_1 from (kr HO_3)); obtain ⟨ce12, hcl12, hM12, hcc12, hfr12⟩ := Kd.R_elem HX12.out z48 (x4_1 : Int) (od) (by have h_ : (x4_1 : Int) < ((x3_1.length : Int) : Int) := od; first | exact h_ | (have e_ := (Kd.R_reads' HO_3.out).1; omega) | simpa using h_); obtain rfl := k48_openM hM12; have HP12 := Kd.R_seg HX12.out (x4_1 : Int) (od) (by have h_ : (x4_1 : Int) < ((x3_1.length : Int) : Int) := od; first | exact h_ | (have e_ := (Kd.R_reads' HO_3.out).1; omega) | simpa using h_) (seg := [.int .i64 t316, .int .i64 t317, .int .i64 t318, .int .i64 t319, .int .i64 t320, .int .i64 t321]) (j := 0) hcl12 hcc12 (show 6 ≤ 6 from by decide) (x' := (⟨(⟨t316, t317, t318, t319⟩ : S44), (⟨t320, t321⟩ : S46)⟩ : S48)) (k48_mkM _ _ _ (⟨(⟨t316, t317, t318, t319⟩ : S44), (⟨t320, t321⟩ : S46)⟩ : S48) ) (fun _ hk => hk); have hx12_0 := hcc12 0 _ rfl; (try simp only [show (k48).sz = 6 from rfl, Nat.mul_one, Nat.add_zero] at hx12_0); have hf12_0 := hfr12 0; (try simp only [show (k48).sz = 6 from rfl, Nat.mul_one, Nat.add_zero] at hf12_0); have hx12_1 := hcc12 1 _ rfl; (try simp only [show (k48).sz = 6 from rfl, Nat.mul_one, Nat.add_zero] at hx12_1); have hf12_1 := hfr12 1; (try simp only [show (k48).sz = 6 from rfl, Nat.mul_one, Nat.add_zero] at hf12_1); have hx12_2 := hcc12 2 _ rfl; (try simp only [show (k48).sz = 6 from rfl, Nat.mul_one, Nat.add_zero] at hx12_2); have hf12_2 := hfr12 2; (try simp only [show (k48).sz = 6 from rfl, Nat.mul_one, Nat.add_zero] at hf12_2); have hx12_3 := hcc12 3 _ rfl; (try simp only [show (k48).sz = 6 from rfl, Nat.mul_one, Nat.add_zero] at hx12_3); have hf12_3 := hfr12 3; (try simp only [show (k48).sz = 6 from rfl, Nat.mul_one, Nat.add_zero] at hf12_3); have hx12_4 := hcc12 4 _ rfl; (try simp only [show (k48).sz = 6 from rfl, Nat.mul_one, Nat.add_zero] at hx12_4); have hf12_4 := hfr12 4; (try simp only [show (k48).sz = 6 from rfl, Nat.mul_one, Nat.add_zero] at hf12_4); have hx12_5 := hcc12 5 _ rfl; (try simp only [show (k48).sz = 6 from rfl, Nat.mul_one, Nat.add_zero] at hx12_5); have hf12_5 := hfr12 5; (try simp only [show (k48).sz = 6 from rfl, Nat.mul_one, Nat.add_zero] at hf12_5); clear hcl12 hcc12 hfr12 hM12) | ((with_reducible refine gate_store (t := 48) (p := 21) rfl ?_); refine store_event (t := 48) (p := 21) (v := ?vo_w13) (w1 := ((((((w11.setCell ⟨go10, (x4_1 : Int).toNat * 6, none⟩ (.int .i64 t316)).setCell ⟨go10, (x4_1 : Int).toNat * 6 + 1, none⟩ (.int .i64 t317)).setCell ⟨go10, (x4_1 : Int).toNat * 6 + 2, none⟩ (.int .i64 t318)).setCell ⟨go10, (x4_1 : Int).toNat * 6 + 3, none⟩ (.int .i64 t319)).setCell ⟨go10, (x4_1 : Int).toNat * 6 + 4, none⟩ (.int .i64 t320)).setCell ⟨go10, (x4_1 : Int).toNat * 6 + 5, none⟩ (.int .i64 t321))) ?hg ?ho ?hn ?hr ?_; (case ho => rfl); (case hg => rfl); (case hn => rfl); (case hr => first | (go_simp; done) | (go_simp; rfl)); intro w13 hw; have hg : w11.grownBy w13 (some go10) := (by rw [hw]; exact HP12.2); have hp_ : Kd.R k48 48 w13 w.heap.size (fun _ => True) (.slice (some ⟨go10, 0, none⟩) x3_1.length co10) y322 := (by rw [hw, Ny322.out]; exact HP12.1); clear HP12; replace HO_3 := asd (hp_); replace HB := asd ((by rw [hw]; exact below_set (below_set (below_set (below_set (below_set (below_set (HB.out) GB10.out) GB10.out) GB10.out) GB10.out) GB10.out) GB10.out : Below w.heap.size w w13)); clear hg hw hp_))
        go_roundg k1
        case measure => have := HK1.out; omega
        case rel => exact ⟨(y322), (wrap64 (x4_1 + 1)), (by first | rfl | (simp; done) | (simp [*]; done)), H', ⟨by have := HK1.out; omega⟩, ⟨by (with_reducible repeat (first | apply Kd.R_alloc | apply Kd.R_drewN | apply Kd.R_drew)); exact HO_3.out⟩, ⟨bbw0 HB⟩⟩
       ·rw [if_neg c9] at H
        exact absurd H (by simp)
      ·rw [if_neg c7] at H
       exact absurd H (by simp)
     ·rw [if_neg c6] at H
      have c6b0 := decide_eq_false c6
      clear c6
      obtain rfl := Option.some.inj H
      go_wp2
      go_ret
      exact ⟨_, by first | rfl | (simp [errW_none, errW_some] <;> rfl) | (simp [*, errW_none, errW_some] <;> rfl), by (with_reducible repeat (first | apply Kd.R_alloc | apply Kd.R_drewN | apply Kd.R_drew)); exact HO_3.out, bbw0 HB⟩
  ·rw [if_neg c3] at H
   exact absurd H (by simp)
 ·rw [if_neg c2] at H
  exact absurd H (by simp)
/-! ### impl_within: function 97 -/
def impl_within.f (a0 : Int) (a1 : Int) (a2 : Int) : Option (Bool) := if a0 ≥ a1 then (some (decide (a0 ≤ a2))) else (some false)
set_option maxHeartbeats 8000000 in
set_option maxRecDepth 100000 in
theorem impl_within.calls (a0 : Int) (a1 : Int) (a2 : Int) (r : Bool) (w : World) (h : impl_within.f a0 a1 a2 = some r) :
  Calls Try.prog 97 #[.int .i64 a0, .int .i64 a1, .int .i64 a2] w fun e w' => e = .returned (.bool r) ∧ Drawn0 w w' := by
 have H : (if a0 ≥ a1 then (some (decide (a0 ≤ a2))) else (some false)) = some r := h
 clear h
 by_cases c4 : a0 ≥ a1
 ·rw [if_pos c4] at H
  have c4b0 : decide (a1 ≤ a0) = true := decide_eq_true c4
  clear c4
  obtain rfl := Option.some.inj H
  go_enter Try.func97, Try.ntmps97
  go_wp2
  go_ret
  exact ⟨by first | rfl | (simp; done) | (simp [*]; done), by repeat (first | exact Drawn0.refl _ | apply Drawn0.step)⟩
 ·rw [if_neg c4] at H
  have c4b0 : decide (a1 ≤ a0) = false := decide_eq_false c4
  clear c4
  obtain rfl := Option.some.inj H
  go_enter Try.func97, Try.ntmps97
  go_wp2
  go_ret
  exact ⟨by first | rfl | (simp; done) | (simp [*]; done), by repeat (first | exact Drawn0.refl _ | apply Drawn0.step)⟩
/-! ### impl_IsFrame: function 80 -/
def impl_IsFrame.f (a0 : Int) : Option (Bool) := (impl_within.f a0 0 1).bind fun t323 => (some t323)
set_option maxHeartbeats 8000000 in
set_option maxRecDepth 100000 in
theorem impl_IsFrame.calls (a0 : Int) (r : Bool) (w : World) (h : impl_IsFrame.f a0 = some r) :
  Calls Try.prog 80 #[.int .i64 a0] w fun e w' => e = .returned (.bool r) ∧ Drawn0 w w' := by
 have H : ((impl_within.f a0 0 1).bind fun t323 => (some t323)) = some r := h
 clear h
 obtain ⟨t323, A2, H⟩ := ob H
 try dsimp only at H
 obtain rfl := Option.some.inj H
 go_enter Try.func80, Try.ntmps80
 go_wp2_with (first | ((with_reducible refine gate_callee (f := 97) rfl ?_); refine gl 4 Try.func97 #[.int .i64 a0, .int .i64 0, .int .i64 1] ?_; (with_reducible refine (impl_within.calls _ _ _ _ _ A2.out).mono ?_); rintro e w' ⟨rfl, ⟨nd, rfl⟩⟩; refine ⟨_, rfl, ?_⟩))
 go_ret
 exact ⟨by first | rfl | (simp; done) | (simp [*]; done), by repeat (first | exact Drawn0.refl _ | apply Drawn0.step)⟩
/-! ### impl_Lattice_index: function 98 -/
def impl_Lattice_index.f (a0_0 : Int) (a0_1 : Int) (a0_2 : Int) : Option (Int) := some (wrap64 (a0_0 * a0_2))
set_option maxHeartbeats 8000000 in
set_option maxRecDepth 100000 in
theorem impl_Lattice_index.calls (a0_0 : Int) (a0_1 : Int) (a0_2 : Int) (r : Int) (w : World) (h : impl_Lattice_index.f a0_0 a0_1 a0_2 = some r) :
  Calls Try.prog 98 #[.agg #[.int .i64 a0_0, .int .i64 a0_1, .int .i64 a0_2]] w fun e w' => e = .returned (.int .i64 r) ∧ Below w.heap.size w w' := by
 have hu29 := Try.underlying29
 have HB := asd (Below.refl w.heap.size w)
 have H : (some (wrap64 (a0_0 * a0_2))) = some r := h
 clear h
 obtain rfl := Option.some.inj H
 go_enter Try.func98, Try.ntmps98
 go_wp2_with (first | ((with_reducible refine gd 1 rfl ?_); refine bx #[.int .i64 a0_0, .int .i64 a0_1, .int .i64 a0_2] 29 ?_; intro gb324 hg w2 BK324 hb; have GE324 := ngw0 hg HB; replace HB := bS0 HB hb; clear hb hg; obtain ⟨hcz3_0, hcz3_1, hcz3_2, hfz3_0, hfz3_1, hfz3_2⟩ := bz3 BK324))
 go_ret
 exact er (bbw1 HB GE324)
/-! ### impl_IsLattice: function 81 -/
def impl_IsLattice.f (a0_0 : Int) (a0_1 : Int) (a0_2 : Int) : Option (Bool) := (impl_within.f a0_0 1 64).bind fun t326 => (if t326 = true then ((impl_within.f a0_2 1 64).bind fun t327 => (if t327 = true then ((impl_within.f a0_1 0 (wrap64 (a0_0 - 1))).bind fun t328 => (if t328 = true then ((impl_Lattice_index.f a0_0 a0_1 a0_2).bind fun t329 => (some (decide (t329 ≤ 64)))) else (some false))) else (some false))) else (some false))
set_option maxHeartbeats 8000000 in
set_option maxRecDepth 100000 in
theorem impl_IsLattice.calls (a0_0 : Int) (a0_1 : Int) (a0_2 : Int) (r : Bool) (w : World) (h : impl_IsLattice.f a0_0 a0_1 a0_2 = some r) :
  Calls Try.prog 81 #[.agg #[.int .i64 a0_0, .int .i64 a0_1, .int .i64 a0_2]] w fun e w' => e = .returned (.bool r) ∧ Below w.heap.size w w' := by
 have hu29 := Try.underlying29
 have HB := asd (Below.refl w.heap.size w)
 have H : ((impl_within.f a0_0 1 64).bind fun t326 => (if t326 = true then ((impl_within.f a0_2 1 64).bind fun t327 => (if t327 = true then ((impl_within.f a0_1 0 (wrap64 (a0_0 - 1))).bind fun t328 => (if t328 = true then ((impl_Lattice_index.f a0_0 a0_1 a0_2).bind fun t329 => (some (decide (t329 ≤ 64)))) else (some false))) else (some false))) else (some false))) = some r := h
 clear h
 obtain ⟨t326, A2, H⟩ := ob H
 try dsimp only at H
 by_cases c3 : t326 = true
 subst c3
 replace H := ifT H
 obtain ⟨t327, A4, H⟩ := ob H
 try dsimp only at H
 by_cases c5 : t327 = true
 subst c5
 replace H := ifT H
 obtain ⟨t328, A6, H⟩ := ob H
 try dsimp only at H
 by_cases c7 : t328 = true
 subst c7
 replace H := ifT H
 obtain ⟨t329, A8, H⟩ := ob H
 try dsimp only at H
 obtain rfl := Option.some.inj H
 rotate_left
 replace c7 := Bool.eq_false_iff.mpr c7
 subst c7
 replace H := ifF H
 obtain rfl := Option.some.inj H
 rotate_left
 replace c5 := Bool.eq_false_iff.mpr c5
 subst c5
 replace H := ifF H
 obtain rfl := Option.some.inj H
 rotate_left
 replace c3 := Bool.eq_false_iff.mpr c3
 subst c3
 replace H := ifF H
 obtain rfl := Option.some.inj H
 rotate_left
 all_goals
  go_enter Try.func81, Try.ntmps81
  go_wp2_with (first | ((with_reducible refine gd 1 rfl ?_); refine bx #[.int .i64 a0_0, .int .i64 a0_1, .int .i64 a0_2] 29 ?_; intro gb325 hg w9 BK325 hb; have GE325 := ngw0 hg HB; replace HB := bS0 HB hb; clear hb hg; obtain ⟨hcz10_0, hcz10_1, hcz10_2, hfz10_0, hfz10_1, hfz10_2⟩ := bz3 BK325) | ((with_reducible refine gate_callee (f := 97) rfl ?_); refine gl 5 Try.func97 #[.int .i64 a0_0, .int .i64 1, .int .i64 64] ?_; (with_reducible refine (impl_within.calls _ _ _ _ _ A2.out).mono ?_); rintro e w' ⟨rfl, ⟨nd, rfl⟩⟩; refine ⟨_, rfl, ?_⟩) | (go_at_call 97; (with_reducible refine (impl_within.calls _ _ _ _ _ A4.out).mono ?_); rintro e w' ⟨rfl, ⟨nd, rfl⟩⟩) | (go_at_call 97; (with_reducible refine (impl_within.calls _ _ _ _ _ A6.out).mono ?_); rintro e w' ⟨rfl, ⟨nd, rfl⟩⟩) | (go_at_call 98; (with_reducible refine (impl_Lattice_index.calls _ _ _ _ _ A8.out).mono ?_); rintro e w11 ⟨rfl, hb⟩; replace BK325 := bB BK325 hb; replace HB := bS1 HB GE325 hb; (try clear hb)))
  go_ret
  exact er (bbw1 HB GE325)
/-! ### impl_frameCode: function 50 -/
def impl_frameCode.f (a0 : Int) (a1_0 : Int) (a1_1 : Int) (a1_2 : Int) : Option (Int) := (impl_IsFrame.f a0).bind fun t331 => (if t331 = true then ((impl_IsLattice.f a1_0 a1_1 a1_2).bind fun t332 => (if t332 = true then (some 0) else (some 1))) else (some 1))
set_option maxHeartbeats 8000000 in
set_option maxRecDepth 100000 in
theorem impl_frameCode.calls (a0 : Int) (a1_0 : Int) (a1_1 : Int) (a1_2 : Int) (r : Int) (w : World) (h : impl_frameCode.f a0 a1_0 a1_1 a1_2 = some r) :
  Calls Try.prog 50 #[.int .i64 a0, .agg #[.int .i64 a1_0, .int .i64 a1_1, .int .i64 a1_2]] w fun e w' => e = .returned (.int .i64 r) ∧ Below w.heap.size w w' := by
 have hu29 := Try.underlying29
 have HB := asd (Below.refl w.heap.size w)
 have H : ((impl_IsFrame.f a0).bind fun t331 => (if t331 = true then ((impl_IsLattice.f a1_0 a1_1 a1_2).bind fun t332 => (if t332 = true then (some 0) else (some 1))) else (some 1))) = some r := h
 clear h
 obtain ⟨t331, A3, H⟩ := ob H
 try dsimp only at H
 by_cases c4 : t331 = true
 subst c4
 replace H := ifT H
 obtain ⟨t332, A5, H⟩ := ob H
 try dsimp only at H
 by_cases c6 : t332 = true
 subst c6
 replace H := ifT H
 obtain rfl := Option.some.inj H
 rotate_left
 replace c6 := Bool.eq_false_iff.mpr c6
 subst c6
 replace H := ifF H
 obtain rfl := Option.some.inj H
 rotate_left
 replace c4 := Bool.eq_false_iff.mpr c4
 subst c4
 replace H := ifF H
 obtain rfl := Option.some.inj H
 rotate_left
 all_goals
  go_enter Try.func50, Try.ntmps50
 rotate_left 2
 ·go_wp2_with (first | ((with_reducible refine gd 3 rfl ?_); refine bx #[.int .i64 a1_0, .int .i64 a1_1, .int .i64 a1_2] 29 ?_; intro gb330 hg w13 BK330 hb; have GE330 := ngw0 hg HB; replace HB := bS0 HB hb; clear hb hg) | ((with_reducible refine gate_callee (f := 80) rfl ?_); refine gl 6 Try.func80 #[.int .i64 a0] ?_; (with_reducible refine (impl_IsFrame.calls _ _ _ A3.out).mono ?_); rintro e w' ⟨rfl, ⟨nd, rfl⟩⟩; refine ⟨_, rfl, ?_⟩))
  go_ret
  exact er (bbw1 HB GE330)
 all_goals
  go_wp2_with (first | ((with_reducible refine gd 3 rfl ?_); refine bx #[.int .i64 a1_0, .int .i64 a1_1, .int .i64 a1_2] 29 ?_; intro gb330 hg w7 BK330 hb; have GE330 := ngw0 hg HB; replace HB := bS0 HB hb; clear hb hg) | ((with_reducible refine gate_callee (f := 80) rfl ?_); refine gl 6 Try.func80 #[.int .i64 a0] ?_; (with_reducible refine (impl_IsFrame.calls _ _ _ A3.out).mono ?_); rintro e w' ⟨rfl, ⟨nd, rfl⟩⟩; refine ⟨_, rfl, ?_⟩; have hcz8_0 : w7.cell? ⟨gb330, 0, none⟩ = some (.int .i64 a1_0) := bcl BK330 0; have hcz8_1 : w7.cell? ⟨gb330, 1, none⟩ = some (.int .i64 a1_1) := bcl BK330 1; have hcz8_2 : w7.cell? ⟨gb330, 2, none⟩ = some (.int .i64 a1_2) := bcl BK330 2; have hfz8_0 := blk_frozen BK330.out 0; have hfz8_1 := blk_frozen BK330.out 1; have hfz8_2 := blk_frozen BK330.out 2) | (go_at_call 81; (with_reducible refine (impl_IsLattice.calls _ _ _ _ _ A5.out).mono ?_); rintro e w9 ⟨rfl, hb⟩; replace BK330 := bB BK330 hb; replace HB := bS1 HB GE330 hb; (try clear hb)))
  go_ret
  exact er (bbw1 HB GE330)
/-! ### impl_mod: function 68 -/
def impl_mod.f (a0 : Int) (a1 : Int) : Option (Int) := if a1 = 0 then (none) else (some (Int.tmod (wrap64 ((Int.tmod a0 a1) + a1)) a1))
set_option maxHeartbeats 8000000 in
set_option maxRecDepth 100000 in
theorem impl_mod.calls (a0 : Int) (a1 : Int) (r : Int) (w : World) (h : impl_mod.f a0 a1 = some r) :
  Calls Try.prog 68 #[.int .i64 a0, .int .i64 a1] w fun e w' => e = .returned (.int .i64 r) ∧ Drawn0 w w' := by
 have H : (if a1 = 0 then (none) else (some (Int.tmod (wrap64 ((Int.tmod a0 a1) + a1)) a1))) = some r := h
 clear h
 by_cases c3 : a1 = 0
 ·rw [if_pos c3] at H
  exact absurd H (by simp)
 ·rw [if_neg c3] at H
  have c3b0 : (a1 == 0) = false := beq_eq_false_iff_ne.mpr c3
  have c3b1 : (a1 != 0) = true := bne_iff_ne.mpr c3
  obtain rfl := Option.some.inj H
  go_enter Try.func68, Try.ntmps68
  go_wp2
  go_ret
  exact ⟨by first | rfl | (simp; done) | (simp [*]; done), by repeat (first | exact Drawn0.refl _ | apply Drawn0.step)⟩
/-! ### impl_Lattice_reduce: function 40 -/
def impl_Lattice_reduce.f (a0_0 : Int) (a0_1 : Int) (a0_2 : Int) (a1_0 : Int) (a1_1 : Int) : Option (Int × Int) := (impl_mod.f a1_1 a0_2).bind fun t336 => (if a0_2 = 0 then (none) else ((impl_mod.f (wrap64 (a1_0 - (wrap64 ((wrap64 (Int.tdiv (wrap64 (a1_1 - t336)) a0_2)) * a0_1)))) a0_0).bind fun t337 => (some (t337, t336))))
def impl_Lattice_reduce.T2 : Bool × List (List Nat × List Nat) := (true, [([], []), ([0], [0]), ([], []), ([2], [2]), ([], []), ([3, 4], [3, 4]), ([], []), ([6], [6]), ([5, 7], [5, 7]), ([], []), ([9], [9]), ([8, 10], [8, 10]), ([1, 11], [1, 11]), ([], []), ([13], [13]), ([12, 14], [12, 14]), ([], []), ([15, 16], [15, 16]), ([17, 15, 0, 1, 2, 3, 4, 5, 6, 7, 8, 9, 10, 11, 12, 13, 14, 15, 16, 17], [17])])
def impl_Lattice_reduce.B2 : List Nat := [0, 1, 0, 4, 0, 28, 0, 64, 252, 0, 512, 2044, 4095, 0, 8192, 32767, 0, 131071, 262143]
theorem impl_Lattice_reduce.tab2 : rtab .any (opsOf Try.f40 2) = impl_Lattice_reduce.T2 := by kernel_rfl
theorem impl_Lattice_reduce.bits2 : waitsOk impl_Lattice_reduce.T2.2 impl_Lattice_reduce.B2 = true := by kernel_rfl
set_option maxHeartbeats 8000000 in
set_option maxRecDepth 100000 in
theorem impl_Lattice_reduce.calls (a0_0 : Int) (a0_1 : Int) (a0_2 : Int) (a1_0 : Int) (a1_1 : Int) (r1 : Int) (r2 : Int) (w : World) (h : impl_Lattice_reduce.f a0_0 a0_1 a0_2 a1_0 a1_1 = some (r1, r2)) :
  Calls Try.prog 40 #[.agg #[.int .i64 a0_0, .int .i64 a0_1, .int .i64 a0_2], .agg #[.int .i64 a1_0, .int .i64 a1_1]] w fun e w' => e = .returned (.agg #[.int .i64 r1, .int .i64 r2]) ∧ Below w.heap.size w w' := by
 have hu29 := Try.underlying29
 have hu46 := Try.underlying46
 have HB := asd (Below.refl w.heap.size w)
 have H : ((impl_mod.f a1_1 a0_2).bind fun t336 => (if a0_2 = 0 then (none) else ((impl_mod.f (wrap64 (a1_0 - (wrap64 ((wrap64 (Int.tdiv (wrap64 (a1_1 - t336)) a0_2)) * a0_1)))) a0_0).bind fun t337 => (some (t337, t336))))) = some (r1, r2) := h
 clear h
 obtain ⟨t336, A3, H⟩ := ob H
 try dsimp only at H
 by_cases c4 : a0_2 = 0
 ·rw [if_pos c4] at H
  exact absurd H (by simp)
 ·rw [if_neg c4] at H
  have c4b0 : (a0_2 == 0) = false := beq_eq_false_iff_ne.mpr c4
  have c4b1 : (a0_2 != 0) = true := bne_iff_ne.mpr c4
  obtain ⟨t337, A5, H⟩ := ob H
  try dsimp only at H
  simp only [Option.some.injEq, Prod.mk.injEq] at H
  obtain ⟨rfl, rfl⟩ := H
  go_enter Try.func40, Try.ntmps40
  try go_wp2_with (first | ((with_reducible refine gd 2 rfl ?_); refine bx #[.int .i64 a0_0, .int .i64 a0_1, .int .i64 a0_2] 29 ?_; intro gb333 hg w6 BK333 hb; have GE333 := ngw0 hg HB; replace HB := bS0 HB hb; clear hb hg) | ((with_reducible refine gd 3 rfl ?_); refine bx #[.int .i64 a1_0, .int .i64 a1_1] 46 ?_; intro gb334 hg w7 BK334 hb; have GE334 := ngw1 hg HB GE333; replace HB := bS1 HB GE333 hb; have NB333_334 := nlt hg BK333; have NB334_333 := nsy (nlt hg BK333); replace BK333 := bB BK333 hb; clear hb hg) | ((with_reducible refine gd 4 rfl ?_); refine bx #[.int .i64 0, .int .i64 0] 46 ?_; intro gb335 hg w8 BK335 hb; have GE335 := ngw2 hg HB GE333 GE334; replace HB := bS2 HB GE333 GE334 hb; have NB333_335 := nlt hg BK333; have NB335_333 := nsy (nlt hg BK333); replace BK333 := bB BK333 hb; have NB334_335 := nlt hg BK334; have NB335_334 := nsy (nlt hg BK334); replace BK334 := bB BK334 hb; clear hb hg; have hnb9 := NB334_333.out; have hnc9 := NB333_334.out; have hnb10 := NB334_335.out; have hnc10 := NB335_334.out; obtain ⟨hcz11_0, hcz11_1, hfz11_0, hfz11_1⟩ := bz2 BK334; have hnb12 := NB333_335.out; have hnc12 := NB335_333.out; obtain ⟨hcz13_0, hcz13_1, hcz13_2, hfz13_0, hfz13_1, hfz13_2⟩ := bz3 BK333) | ((with_reducible refine gate_callee (f := 68) rfl ?_); refine gl 10 Try.func68 #[.int .i64 a1_1, .int .i64 a0_2] ?_; (with_reducible refine (impl_mod.calls _ _ _ _ A3.out).mono ?_); rintro e w' ⟨rfl, ⟨nd, rfl⟩⟩; refine ⟨_, rfl, ?_⟩; (try (rw [drewN_self w8]; generalize hq_ : World.drewN w8 _ = w8; have n0_ : Aside0 (w8.heap[gb333]? = some (.cells #[.int .i64 a0_0, .int .i64 a0_1, .int .i64 a0_2] 29 (0, 0))) := ⟨by rw [← hq_]; exact (bkp BK333)⟩; have n1_ : Aside0 (w8.heap[gb334]? = some (.cells #[.int .i64 a1_0, .int .i64 a1_1] 46 (0, 0))) := ⟨by rw [← hq_]; exact (bkp BK334)⟩; have n2_ : Aside0 (w8.heap[gb335]? = some (.cells #[.int .i64 0, .int .i64 0] 46 (0, 0))) := ⟨by rw [← hq_]; exact (bkp BK335)⟩; have n3_ : Aside0 (Below w.heap.size w w8) := ⟨by rw [← hq_]; exact (bbw3 HB GE333 GE334 GE335)⟩; clear BK333 BK334 BK335 HB hq_; have BK333 := n0_; have BK334 := n1_; have BK335 := n2_; have HB := n3_; clear n0_ n1_ n2_ n3_))))
  replace BK333 := asd (blk_drew BK333.out)
  replace BK334 := asd (blk_drew BK334.out)
  replace BK335 := asd (blk_drew BK335.out)
  replace HB := asd (below_drew1 HB.out)
  refine sh 19 (cb2 BK334 (eb3 BK333)) (fun hHeld => ?_); refine with_tabW impl_Lattice_reduce.tab2 impl_Lattice_reduce.bits2 (fun HT_ HW_ => ?_)
  generalize w8.drew = w14 at BK333 BK334 BK335 HB hHeld ⊢
  refine pu 0 (some 11) (bt 19 1) HT_ ?_
  refine pu 2 (some 13) (bs 19 5) HT_ ?_
  refine pu 4 (some 15) (bs 19 21) HT_ ?_
  refine pu 6 (some 17) (bs 19 85) HT_ ?_
  refine pu 9 (some 20) (bs 19 597) HT_ ?_
  refine pu 13 (some 24) (bs 19 8789) HT_ ?_
  refine pu 16 (some 27) (bs 19 74325) HT_ ?_
  refine ta 1 (some 12) (bs 19 74327) HT_ HW_ hHeld ?_
  refine ta 3 (some 14) (bs 19 74335) HT_ HW_ hHeld ?_
  refine pu 5 (some 16) (bs 19 74367) HT_ ?_
  refine ta 7 (some 18) (bs 19 74495) HT_ HW_ hHeld ?_
  refine pu 8 (some 19) (bs 19 74751) HT_ ?_
  refine ta 10 (some 21) (bs 19 75775) HT_ HW_ hHeld ?_
  refine pu 11 (some 22) (bs 19 77823) HT_ ?_
  refine pu 12 (some 23) (bs 19 81919) HT_ ?_
  refine ta 14 (some 25) (bs 19 98303) HT_ HW_ hHeld ?_
  refine ro 15 (some 26) (bt 19 17) HT_ (fun K hK => ?_)
  refine gs Try.func68 #[.int .i64 (wrap64 (a1_0 - (wrap64 ((wrap64 (Int.tdiv (wrap64 (a1_1 - t336)) a0_2)) * a0_1)))), .int .i64 a0_0] ?_
  with_reducible refine (impl_mod.calls _ _ _ _ A5.out).mono ?_
  rintro e w' ⟨rfl, ⟨nd, rfl⟩⟩
  refine ⟨_, rfl, ?_⟩
  refine hK.out _ _ (cb2 BK334 (eb3 BK333)).out (fun hHeld => ?_)
  clear hK K
  refine norm_ (a' := ?_) ?_ ?_
  rotate_left
  ·show Act.put _ (some 26) _ = _
   simp only [Act.put, sA, sB, sC, i64_w, i32_w]
   rfl
  refine pu 17 (some 28) (bt 19 18) HT_ ?_
  refine ro 18 (none) (bt 19 19) HT_ (fun K hK => ?_)
  have hs15 : w14.cell? ⟨gb335, 0, none⟩ = some (.int .i64 0) := bcl BK335 0
  have hfs15 := blk_frozen BK335.out 0
  have hns15_0 := NB333_335.out
  have hns15_1 := NB334_335.out
  have hms15_0 := NB335_333.out
  have hms15_1 := NB335_334.out
  have hs16 : w14.cell? ⟨gb335, 1, none⟩ = some (.int .i64 0) := bcl BK335 1
  have hfs16 := blk_frozen BK335.out 1
  have hns16_0 := NB333_335.out
  have hns16_1 := NB334_335.out
  have hms16_0 := NB335_333.out
  have hms16_1 := NB335_334.out
  refine skip_ (w1 := ?_) (by rfl) rfl ?_ ?_
  rotate_left
  ·go_simp
   rfl
  refine hK.out _ _ ⟨(cf NB334_335 ((cf NB334_335 (hHeld.1)))), (cf NB334_335 ((cf NB334_335 (hHeld.2.1)))), (cf NB333_335 ((cf NB333_335 (hHeld.2.2.1)))), (cf NB333_335 ((cf NB333_335 (hHeld.2.2.2.1)))), (cf NB333_335 ((cf NB333_335 (hHeld.2.2.2.2))))⟩ (fun hHeld => ?_)
  clear hK K
  refine done_ (done_of HT_.out (by kernel_rfl)) ?_
  try go_wp2
  refine bodyPost_ret (results_cell_row rfl _ _ gb335 46 #[.int .i64 t337, .int .i64 t336] (0, 0) _ rfl (bq0 BK335) Try.underlying46 rfl (by kernel_rfl)) rfl ?_
  exact er (bbw3 HB GE333 GE334 GE335)
/-! ### impl_Lattice_reduceMotion: function 56 -/
def impl_Lattice_reduceMotion.f (a0_0 : Int) (a0_1 : Int) (a0_2 : Int) (a1_0 : Int) (a1_1 : Int) (a1_2 : Int) (a1_3 : Int) (a1_4 : Int) (a1_5 : Int) : Option (Int × Int × Int × Int × Int × Int) := (impl_Lattice_reduce.f a0_0 a0_1 a0_2 a1_4 a1_5).bind fun bt341 => (some (a1_0, a1_1, a1_2, a1_3, bt341.1, bt341.2))
def impl_Lattice_reduceMotion.T1 : Bool × List (List Nat × List Nat) := (true, [([], []), ([0], [0]), ([], []), ([], []), ([3], [3]), ([2, 4], [2, 4]), ([1, 5], [1, 5]), ([6, 5, 0, 1, 2, 3, 4, 5, 6], [6])])
def impl_Lattice_reduceMotion.B1 : List Nat := [0, 1, 0, 0, 8, 28, 63, 127]
theorem impl_Lattice_reduceMotion.tab1 : rtab .any (opsOf Try.f56 1) = impl_Lattice_reduceMotion.T1 := by kernel_rfl
theorem impl_Lattice_reduceMotion.bits1 : waitsOk impl_Lattice_reduceMotion.T1.2 impl_Lattice_reduceMotion.B1 = true := by kernel_rfl
set_option maxHeartbeats 8000000 in
set_option maxRecDepth 100000 in
theorem impl_Lattice_reduceMotion.calls (a0_0 : Int) (a0_1 : Int) (a0_2 : Int) (a1_0 : Int) (a1_1 : Int) (a1_2 : Int) (a1_3 : Int) (a1_4 : Int) (a1_5 : Int) (r1 : Int) (r2 : Int) (r3 : Int) (r4 : Int) (r5 : Int) (r6 : Int) (w : World) (h : impl_Lattice_reduceMotion.f a0_0 a0_1 a0_2 a1_0 a1_1 a1_2 a1_3 a1_4 a1_5 = some (r1, r2, r3, r4, r5, r6)) :
  Calls Try.prog 56 #[.agg #[.int .i64 a0_0, .int .i64 a0_1, .int .i64 a0_2], .agg #[.int .i64 a1_0, .int .i64 a1_1, .int .i64 a1_2, .int .i64 a1_3, .int .i64 a1_4, .int .i64 a1_5]] w fun e w' => e = .returned (.agg #[.int .i64 r1, .int .i64 r2, .int .i64 r3, .int .i64 r4, .int .i64 r5, .int .i64 r6]) ∧ Below w.heap.size w w' := by
 have hu29 := Try.underlying29
 have hu48 := Try.underlying48
 have hu44 := Try.underlying44
 have hu46 := Try.underlying46
 have HB := asd (Below.refl w.heap.size w)
 have H : ((impl_Lattice_reduce.f a0_0 a0_1 a0_2 a1_4 a1_5).bind fun bt341 => (some (a1_0, a1_1, a1_2, a1_3, bt341.1, bt341.2))) = some (r1, r2, r3, r4, r5, r6) := h
 clear h
 obtain ⟨⟨t341, t342⟩, A3, H⟩ := ob H
 try dsimp only at H
 simp only [Option.some.injEq, Prod.mk.injEq] at H
 obtain ⟨rfl, rfl, rfl, rfl, rfl, rfl⟩ := H
 go_enter Try.func56, Try.ntmps56
 try go_wp2_with (first | ((with_reducible refine gd 2 rfl ?_); refine bx #[.int .i64 a0_0, .int .i64 a0_1, .int .i64 a0_2] 29 ?_; intro gb338 hg w4 BK338 hb; have GE338 := ngw0 hg HB; replace HB := bS0 HB hb; clear hb hg) | ((with_reducible refine gd 3 rfl ?_); refine bx #[.int .i64 a1_0, .int .i64 a1_1, .int .i64 a1_2, .int .i64 a1_3, .int .i64 a1_4, .int .i64 a1_5] 48 ?_; intro gb339 hg w5 BK339 hb; have GE339 := ngw1 hg HB GE338; replace HB := bS1 HB GE338 hb; have NB338_339 := nlt hg BK338; have NB339_338 := nsy (nlt hg BK338); replace BK338 := bB BK338 hb; clear hb hg) | ((with_reducible refine gd 4 rfl ?_); refine bx #[.int .i64 0, .int .i64 0, .int .i64 0, .int .i64 0, .int .i64 0, .int .i64 0] 48 ?_; intro gb340 hg w6 BK340 hb; have GE340 := ngw2 hg HB GE338 GE339; replace HB := bS2 HB GE338 GE339 hb; have NB338_340 := nlt hg BK338; have NB340_338 := nsy (nlt hg BK338); replace BK338 := bB BK338 hb; have NB339_340 := nlt hg BK339; have NB340_339 := nsy (nlt hg BK339); replace BK339 := bB BK339 hb; clear hb hg))
 replace BK338 := asd (blk_drew BK338.out)
 replace BK339 := asd (blk_drew BK339.out)
 replace BK340 := asd (blk_drew BK340.out)
 replace HB := asd (below_drew1 HB.out)
 refine sh 8 (cb6 BK339 (eb3 BK338)) (fun hHeld => ?_); refine with_tabW impl_Lattice_reduceMotion.tab1 impl_Lattice_reduceMotion.bits1 (fun HT_ HW_ => ?_)
 generalize w6.drew = w7 at BK338 BK339 BK340 HB hHeld ⊢
 refine pu 0 (some 5) (bt 8 1) HT_ ?_
 refine pu 3 (some 8) (bs 8 9) HT_ ?_
 refine ta 1 (some 6) (bs 8 11) HT_ HW_ hHeld ?_
 refine ta 2 (some 7) (bt 8 4) HT_ HW_ hHeld ?_
 refine ta 4 (some 9) (bt 8 5) HT_ HW_ hHeld ?_
 refine ro 5 (some 10) (bt 8 6) HT_ (fun K hK => ?_)
 refine gs Try.func40 #[.agg #[.int .i64 a0_0, .int .i64 a0_1, .int .i64 a0_2], .agg #[.int .i64 a1_4, .int .i64 a1_5]] ?_
 with_reducible refine (impl_Lattice_reduce.calls _ _ _ _ _ _ _ _ A3.out).mono ?_
 rintro e w8 ⟨rfl, hb⟩
 refine ⟨_, rfl, ?_⟩
 replace BK338 := bB BK338 hb
 replace BK339 := bB BK339 hb
 replace BK340 := bB BK340 hb
 replace HB := bS3 HB GE338 GE339 GE340 hb
 (try clear hb)
 (try clear hb2)
 (try clear hk)
 (try clear hi)
 refine hK.out _ _ (cb6 BK339 (eb3 BK338)).out (fun hHeld => ?_)
 clear hK K
 refine norm_ (a' := ?_) ?_ ?_
 rotate_left
 ·show Act.put _ (some 10) _ = _
  simp only [Act.put, sA, sB, sC, i64_w, i32_w]
  rfl
 refine pu 6 (some 11) (bt 8 7) HT_ ?_
 refine ro 7 (none) (bt 8 8) HT_ (fun K hK => ?_)
 have hs9 : w8.cell? ⟨gb340, 0, none⟩ = some (.int .i64 0) := bcl BK340 0
 have hfs9 := blk_frozen BK340.out 0
 have hns9_0 := NB338_340.out
 have hns9_1 := NB339_340.out
 have hms9_0 := NB340_338.out
 have hms9_1 := NB340_339.out
 have hs10 : w8.cell? ⟨gb340, 1, none⟩ = some (.int .i64 0) := bcl BK340 1
 have hfs10 := blk_frozen BK340.out 1
 have hns10_0 := NB338_340.out
 have hns10_1 := NB339_340.out
 have hms10_0 := NB340_338.out
 have hms10_1 := NB340_339.out
 have hs11 : w8.cell? ⟨gb340, 2, none⟩ = some (.int .i64 0) := bcl BK340 2
 have hfs11 := blk_frozen BK340.out 2
 have hns11_0 := NB338_340.out
 have hns11_1 := NB339_340.out
 have hms11_0 := NB340_338.out
 have hms11_1 := NB340_339.out
 have hs12 : w8.cell? ⟨gb340, 3, none⟩ = some (.int .i64 0) := bcl BK340 3
 have hfs12 := blk_frozen BK340.out 3
 have hns12_0 := NB338_340.out
 have hns12_1 := NB339_340.out
 have hms12_0 := NB340_338.out
 have hms12_1 := NB340_339.out
 have hs13 : w8.cell? ⟨gb340, 4, none⟩ = some (.int .i64 0) := bcl BK340 4
 have hfs13 := blk_frozen BK340.out 4
 have hns13_0 := NB338_340.out
 have hns13_1 := NB339_340.out
 have hms13_0 := NB340_338.out
 have hms13_1 := NB340_339.out
 have hs14 : w8.cell? ⟨gb340, 5, none⟩ = some (.int .i64 0) := bcl BK340 5
 have hfs14 := blk_frozen BK340.out 5
 have hns14_0 := NB338_340.out
 have hns14_1 := NB339_340.out
 have hms14_0 := NB340_338.out
 have hms14_1 := NB340_339.out
 refine skip_ (w1 := ?_) (by rfl) rfl ?_ ?_
 rotate_left
 ·go_simp
  rfl
 refine hK.out _ _ ⟨(cf NB339_340 ((cf NB339_340 ((cf NB339_340 ((cf NB339_340 ((cf NB339_340 ((cf NB339_340 (hHeld.1)))))))))))), (cf NB339_340 ((cf NB339_340 ((cf NB339_340 ((cf NB339_340 ((cf NB339_340 ((cf NB339_340 (hHeld.2.1)))))))))))), (cf NB339_340 ((cf NB339_340 ((cf NB339_340 ((cf NB339_340 ((cf NB339_340 ((cf NB339_340 (hHeld.2.2.1)))))))))))), (cf NB339_340 ((cf NB339_340 ((cf NB339_340 ((cf NB339_340 ((cf NB339_340 ((cf NB339_340 (hHeld.2.2.2.1)))))))))))), (cf NB339_340 ((cf NB339_340 ((cf NB339_340 ((cf NB339_340 ((cf NB339_340 ((cf NB339_340 (hHeld.2.2.2.2.1)))))))))))), (cf NB339_340 ((cf NB339_340 ((cf NB339_340 ((cf NB339_340 ((cf NB339_340 ((cf NB339_340 (hHeld.2.2.2.2.2.1)))))))))))), (cf NB338_340 ((cf NB338_340 ((cf NB338_340 ((cf NB338_340 ((cf NB338_340 ((cf NB338_340 (hHeld.2.2.2.2.2.2.1)))))))))))), (cf NB338_340 ((cf NB338_340 ((cf NB338_340 ((cf NB338_340 ((cf NB338_340 ((cf NB338_340 (hHeld.2.2.2.2.2.2.2.1)))))))))))), (cf NB338_340 ((cf NB338_340 ((cf NB338_340 ((cf NB338_340 ((cf NB338_340 ((cf NB338_340 (hHeld.2.2.2.2.2.2.2.2))))))))))))⟩ (fun hHeld => ?_)
 clear hK K
 refine done_ (done_of HT_.out (by kernel_rfl)) ?_
 try go_wp2
 refine bodyPost_ret (results_cell_row rfl _ _ gb340 48 #[.int .i64 a1_0, .int .i64 a1_1, .int .i64 a1_2, .int .i64 a1_3, .int .i64 t341, .int .i64 t342] (0, 0) _ rfl (bq0 BK340) Try.underlying48 rfl (by kernel_rfl)) rfl ?_
 exact er (bbw3 HB GE338 GE339 GE340)
/-! ### impl_Vec_add: function 37 -/
def impl_Vec_add.f (a0_0 : Int) (a0_1 : Int) (a1_0 : Int) (a1_1 : Int) : Option (Int × Int) := some (wrap64 (a0_0 + a1_0), wrap64 (a0_1 + a1_1))
set_option maxHeartbeats 8000000 in
set_option maxRecDepth 100000 in
theorem impl_Vec_add.calls (a0_0 : Int) (a0_1 : Int) (a1_0 : Int) (a1_1 : Int) (r1 : Int) (r2 : Int) (w : World) (h : impl_Vec_add.f a0_0 a0_1 a1_0 a1_1 = some (r1, r2)) :
  Calls Try.prog 37 #[.agg #[.int .i64 a0_0, .int .i64 a0_1], .agg #[.int .i64 a1_0, .int .i64 a1_1]] w fun e w' => e = .returned (.agg #[.int .i64 r1, .int .i64 r2]) ∧ Below w.heap.size w w' := by
 have hu46 := Try.underlying46
 have HB := asd (Below.refl w.heap.size w)
 have H : (some (wrap64 (a0_0 + a1_0), wrap64 (a0_1 + a1_1))) = some (r1, r2) := h
 clear h
 simp only [Option.some.injEq, Prod.mk.injEq] at H
 obtain ⟨rfl, rfl⟩ := H
 go_enter Try.func37, Try.ntmps37
 go_wp2_with (first | ((with_reducible refine gd 2 rfl ?_); refine bx #[.int .i64 a0_0, .int .i64 a0_1] 46 ?_; intro gb343 hg w3 BK343 hb; have GE343 := ngw0 hg HB; replace HB := bS0 HB hb; clear hb hg) | ((with_reducible refine gd 3 rfl ?_); refine bx #[.int .i64 a1_0, .int .i64 a1_1] 46 ?_; intro gb344 hg w4 BK344 hb; have GE344 := ngw1 hg HB GE343; replace HB := bS1 HB GE343 hb; have NB343_344 := nlt hg BK343; have NB344_343 := nsy (nlt hg BK343); replace BK343 := bB BK343 hb; clear hb hg) | ((with_reducible refine gd 4 rfl ?_); refine bx #[.int .i64 0, .int .i64 0] 46 ?_; intro gb345 hg w5 BK345 hb; have GE345 := ngw2 hg HB GE343 GE344; replace HB := bS2 HB GE343 GE344 hb; have NB343_345 := nlt hg BK343; have NB345_343 := nsy (nlt hg BK343); replace BK343 := bB BK343 hb; have NB344_345 := nlt hg BK344; have NB345_344 := nsy (nlt hg BK344); replace BK344 := bB BK344 hb; clear hb hg; have hnb6 := NB343_344.out; have hnc6 := NB344_343.out; have hnb7 := NB343_345.out; have hnc7 := NB345_343.out; obtain ⟨hcz8_0, hcz8_1, hfz8_0, hfz8_1⟩ := bz2 BK343; have hnb9 := NB344_345.out; have hnc9 := NB345_344.out; obtain ⟨hcz10_0, hcz10_1, hfz10_0, hfz10_1⟩ := bz2 BK344; obtain ⟨hcz11_0, hcz11_1, hfz11_0, hfz11_1⟩ := bz2 BK345))
 refine bodyPost_ret (results_cell_row rfl _ _ gb345 46 #[.int .i64 (wrap64 (a0_0 + a1_0)), .int .i64 (wrap64 (a0_1 + a1_1))] (0, 0) _ rfl (bq0 BK345) Try.underlying46 rfl (by kernel_rfl)) rfl ?_
 exact er (bbw3 HB GE343 GE344 GE345)
/-! ### impl_Mat_times: function 86 -/
def impl_Mat_times.f (a0_0 : Int) (a0_1 : Int) (a0_2 : Int) (a0_3 : Int) (a1_0 : Int) (a1_1 : Int) (a1_2 : Int) (a1_3 : Int) : Option (Int × Int × Int × Int) := some (wrap64 ((wrap64 (a0_0 * a1_0)) + (wrap64 (a0_1 * a1_2))), wrap64 ((wrap64 (a0_0 * a1_1)) + (wrap64 (a0_1 * a1_3))), wrap64 ((wrap64 (a0_2 * a1_0)) + (wrap64 (a0_3 * a1_2))), wrap64 ((wrap64 (a0_2 * a1_1)) + (wrap64 (a0_3 * a1_3))))
set_option maxHeartbeats 8000000 in
set_option maxRecDepth 100000 in
theorem impl_Mat_times.calls (a0_0 : Int) (a0_1 : Int) (a0_2 : Int) (a0_3 : Int) (a1_0 : Int) (a1_1 : Int) (a1_2 : Int) (a1_3 : Int) (r1 : Int) (r2 : Int) (r3 : Int) (r4 : Int) (w : World) (h : impl_Mat_times.f a0_0 a0_1 a0_2 a0_3 a1_0 a1_1 a1_2 a1_3 = some (r1, r2, r3, r4)) :
  Calls Try.prog 86 #[.agg #[.int .i64 a0_0, .int .i64 a0_1, .int .i64 a0_2, .int .i64 a0_3], .agg #[.int .i64 a1_0, .int .i64 a1_1, .int .i64 a1_2, .int .i64 a1_3]] w fun e w' => e = .returned (.agg #[.int .i64 r1, .int .i64 r2, .int .i64 r3, .int .i64 r4]) ∧ Below w.heap.size w w' := by
 have hu44 := Try.underlying44
 have HB := asd (Below.refl w.heap.size w)
 have H : (some (wrap64 ((wrap64 (a0_0 * a1_0)) + (wrap64 (a0_1 * a1_2))), wrap64 ((wrap64 (a0_0 * a1_1)) + (wrap64 (a0_1 * a1_3))), wrap64 ((wrap64 (a0_2 * a1_0)) + (wrap64 (a0_3 * a1_2))), wrap64 ((wrap64 (a0_2 * a1_1)) + (wrap64 (a0_3 * a1_3))))) = some (r1, r2, r3, r4) := h
 clear h
 simp only [Option.some.injEq, Prod.mk.injEq] at H
 obtain ⟨rfl, rfl, rfl, rfl⟩ := H
 go_enter Try.func86, Try.ntmps86
 go_wp2_with (first | ((with_reducible refine gd 2 rfl ?_); refine bx #[.int .i64 a0_0, .int .i64 a0_1, .int .i64 a0_2, .int .i64 a0_3] 44 ?_; intro gb346 hg w3 BK346 hb; have GE346 := ngw0 hg HB; replace HB := bS0 HB hb; clear hb hg) | ((with_reducible refine gd 3 rfl ?_); refine bx #[.int .i64 a1_0, .int .i64 a1_1, .int .i64 a1_2, .int .i64 a1_3] 44 ?_; intro gb347 hg w4 BK347 hb; have GE347 := ngw1 hg HB GE346; replace HB := bS1 HB GE346 hb; have NB346_347 := nlt hg BK346; have NB347_346 := nsy (nlt hg BK346); replace BK346 := bB BK346 hb; clear hb hg) | ((with_reducible refine gd 4 rfl ?_); refine bx #[.int .i64 0, .int .i64 0, .int .i64 0, .int .i64 0] 44 ?_; intro gb348 hg w5 BK348 hb; have GE348 := ngw2 hg HB GE346 GE347; replace HB := bS2 HB GE346 GE347 hb; have NB346_348 := nlt hg BK346; have NB348_346 := nsy (nlt hg BK346); replace BK346 := bB BK346 hb; have NB347_348 := nlt hg BK347; have NB348_347 := nsy (nlt hg BK347); replace BK347 := bB BK347 hb; clear hb hg; have hnb6 := NB346_347.out; have hnc6 := NB347_346.out; have hnb7 := NB346_348.out; have hnc7 := NB348_346.out; obtain ⟨hcz8_0, hcz8_1, hcz8_2, hcz8_3, hfz8_0, hfz8_1, hfz8_2, hfz8_3⟩ := bz4 BK346; have hnb9 := NB347_348.out; have hnc9 := NB348_347.out; obtain ⟨hcz10_0, hcz10_1, hcz10_2, hcz10_3, hfz10_0, hfz10_1, hfz10_2, hfz10_3⟩ := bz4 BK347; obtain ⟨hcz11_0, hcz11_1, hcz11_2, hcz11_3, hfz11_0, hfz11_1, hfz11_2, hfz11_3⟩ := bz4 BK348))
 refine bodyPost_ret (results_cell_row rfl _ _ gb348 44 #[.int .i64 (wrap64 ((wrap64 (a0_0 * a1_0)) + (wrap64 (a0_1 * a1_2)))), .int .i64 (wrap64 ((wrap64 (a0_0 * a1_1)) + (wrap64 (a0_1 * a1_3)))), .int .i64 (wrap64 ((wrap64 (a0_2 * a1_0)) + (wrap64 (a0_3 * a1_2)))), .int .i64 (wrap64 ((wrap64 (a0_2 * a1_1)) + (wrap64 (a0_3 * a1_3))))] (0, 0) _ rfl (bq0 BK348) Try.underlying44 rfl (by kernel_rfl)) rfl ?_
 exact er (bbw3 HB GE346 GE347 GE348)
/-! ### impl_Mat_apply: function 87 -/
def impl_Mat_apply.f (a0_0 : Int) (a0_1 : Int) (a0_2 : Int) (a0_3 : Int) (a1_0 : Int) (a1_1 : Int) : Option (Int × Int) := some (wrap64 ((wrap64 (a0_0 * a1_0)) + (wrap64 (a0_1 * a1_1))), wrap64 ((wrap64 (a0_2 * a1_0)) + (wrap64 (a0_3 * a1_1))))
set_option maxHeartbeats 8000000 in
set_option maxRecDepth 100000 in
theorem impl_Mat_apply.calls (a0_0 : Int) (a0_1 : Int) (a0_2 : Int) (a0_3 : Int) (a1_0 : Int) (a1_1 : Int) (r1 : Int) (r2 : Int) (w : World) (h : impl_Mat_apply.f a0_0 a0_1 a0_2 a0_3 a1_0 a1_1 = some (r1, r2)) :
  Calls Try.prog 87 #[.agg #[.int .i64 a0_0, .int .i64 a0_1, .int .i64 a0_2, .int .i64 a0_3], .agg #[.int .i64 a1_0, .int .i64 a1_1]] w fun e w' => e = .returned (.agg #[.int .i64 r1, .int .i64 r2]) ∧ Below w.heap.size w w' := by
 have hu44 := Try.underlying44
 have hu46 := Try.underlying46
 have HB := asd (Below.refl w.heap.size w)
 have H : (some (wrap64 ((wrap64 (a0_0 * a1_0)) + (wrap64 (a0_1 * a1_1))), wrap64 ((wrap64 (a0_2 * a1_0)) + (wrap64 (a0_3 * a1_1))))) = some (r1, r2) := h
 clear h
 simp only [Option.some.injEq, Prod.mk.injEq] at H
 obtain ⟨rfl, rfl⟩ := H
 go_enter Try.func87, Try.ntmps87
 go_wp2_with (first | ((with_reducible refine gd 2 rfl ?_); refine bx #[.int .i64 a0_0, .int .i64 a0_1, .int .i64 a0_2, .int .i64 a0_3] 44 ?_; intro gb349 hg w3 BK349 hb; have GE349 := ngw0 hg HB; replace HB := bS0 HB hb; clear hb hg) | ((with_reducible refine gd 3 rfl ?_); refine bx #[.int .i64 a1_0, .int .i64 a1_1] 46 ?_; intro gb350 hg w4 BK350 hb; have GE350 := ngw1 hg HB GE349; replace HB := bS1 HB GE349 hb; have NB349_350 := nlt hg BK349; have NB350_349 := nsy (nlt hg BK349); replace BK349 := bB BK349 hb; clear hb hg) | ((with_reducible refine gd 4 rfl ?_); refine bx #[.int .i64 0, .int .i64 0] 46 ?_; intro gb351 hg w5 BK351 hb; have GE351 := ngw2 hg HB GE349 GE350; replace HB := bS2 HB GE349 GE350 hb; have NB349_351 := nlt hg BK349; have NB351_349 := nsy (nlt hg BK349); replace BK349 := bB BK349 hb; have NB350_351 := nlt hg BK350; have NB351_350 := nsy (nlt hg BK350); replace BK350 := bB BK350 hb; clear hb hg; have hnb6 := NB349_350.out; have hnc6 := NB350_349.out; have hnb7 := NB349_351.out; have hnc7 := NB351_349.out; obtain ⟨hcz8_0, hcz8_1, hcz8_2, hcz8_3, hfz8_0, hfz8_1, hfz8_2, hfz8_3⟩ := bz4 BK349; have hnb9 := NB350_351.out; have hnc9 := NB351_350.out; obtain ⟨hcz10_0, hcz10_1, hfz10_0, hfz10_1⟩ := bz2 BK350; obtain ⟨hcz11_0, hcz11_1, hfz11_0, hfz11_1⟩ := bz2 BK351))
 refine bodyPost_ret (results_cell_row rfl _ _ gb351 46 #[.int .i64 (wrap64 ((wrap64 (a0_0 * a1_0)) + (wrap64 (a0_1 * a1_1)))), .int .i64 (wrap64 ((wrap64 (a0_2 * a1_0)) + (wrap64 (a0_3 * a1_1))))] (0, 0) _ rfl (bq0 BK351) Try.underlying46 rfl (by kernel_rfl)) rfl ?_
 exact er (bbw3 HB GE349 GE350 GE351)

end Go.Proofs.Ytilbokbfcmeleaa.PA
