/- Walks written by program: each Go function that the law reaches comes to the plain function beside it. -/
import Derived.Test.YtdodghjnlekgeaaGreatPAx0
import Derived.Test.YtdodghjnlekgeaaGreatPAx6
import Derived.Test.YtdodghjnlekgeaaGreatPAx7
import Derived.Test.YtdodghjnlekgeaaGreatPAx10
import Derived.Test.YtdodghjnlekgeaaGreatPAx11
namespace Go.Proofs.YtdodghjnlekgeaaGreat.PA
open Go.RowKit Go.Proofs.YtdodghjnlekgeaaGreatW.PrintWords Go.Proofs.YtdodghjnlekgeaaGreatW.PrintLast Go.Proofs.YtdodghjnlekgeaaGreatW.PrintMore
attribute [local go_sem] max2_int min2_int max_two min_two max_three min_three max_four min_four   -- for this text's walks alone
set_option linter.unusedVariables false
set_option linter.unusedSimpArgs false

/-! ### spec_ShiftedGroup: function 16 -/
mutual
def spec_ShiftedGroup.j0 : Nat → List (S48) → Int → Int → Int → Int → Int → Int → Option ((List (S48)) × Int)
 | 0, _, _, _, _, _, _, _ => none
 | k + 1, x2, x10, x333000, x333001, x333002, x334000, x334001 => if x10 = 0 then (spec_ShiftedGroup.l0 k x2 (([] : List (S48))) 0 x333000 x333001 x333002 x334000 x334001) else (some (([] : List (S48)), x10))
def spec_ShiftedGroup.l0 : Nat → List (S48) → List (S48) → Int → Int → Int → Int → Int → Int → Option ((List (S48)) × Int)
 | 0, _, _, _, _, _, _, _, _ => none
 | k + 1, x2, x11, x12, x333000, x333001, x333002, x334000, x334001 => if x12 < (x2.length : Int) then (if 0 ≤ x12 then ((spec_l02Apply.f ((rd_T48 x2 x12).f0.f0) ((rd_T48 x2 x12).f0.f1) ((rd_T48 x2 x12).f0.f2) ((rd_T48 x2 x12).f0.f3) x334000 x334001).bind fun bt343 => ((spec_l01Scale.f bt343.1 bt343.2 (-1)).bind fun bt345 => ((spec_l01Add.f x334000 x334001 bt345.1 bt345.2).bind fun bt347 => ((spec_l01Add.f ((rd_T48 x2 x12).f1.f0) ((rd_T48 x2 x12).f1.f1) bt347.1 bt347.2).bind fun bt349 => ((spec_l06Reduce.f x333000 x333001 x333002 ((rd_T48 x2 x12).f0.f0) ((rd_T48 x2 x12).f0.f1) ((rd_T48 x2 x12).f0.f2) ((rd_T48 x2 x12).f0.f3) bt349.1 bt349.2).bind fun bt353 => (if (x11.length < 2932031007402 ∧ spec_l06Insert.ok x11 (⟨(⟨bt353.1, bt353.2.1, bt353.2.2.1, bt353.2.2.2.1⟩ : S46), (⟨bt353.2.2.2.2.1, bt353.2.2.2.2.2⟩ : S38)⟩ : S48) = true) then (spec_ShiftedGroup.l0 k x2 (spec_l06Insert.ins x11 (⟨(⟨bt353.1, bt353.2.1, bt353.2.2.1, bt353.2.2.2.1⟩ : S46), (⟨bt353.2.2.2.2.1, bt353.2.2.2.2.2⟩ : S38)⟩ : S48)) (wrap64 (x12 + 1)) x333000 x333001 x333002 x334000 x334001) else (none))))))) else (none)) else (some (x11, 0))
end
def spec_ShiftedGroup.f (k : Nat) (a0 : Int) (a1_0 : Int) (a1_1 : Int) (a1_2 : Int) (l2 : List (S48)) (a3_0 : Int) (a3_1 : Int) : Option ((List (S48)) × Int) := (spec_IsGroup.f k a0 a1_0 a1_1 a1_2 l2).bind fun t334 => (if t334 = true then ((spec_IsVec.f a3_0 a3_1).bind fun t335 => ((spec_l06Code.f a0 a1_0 a1_1 a1_2 t335).bind fun t336 => (spec_ShiftedGroup.j0 k l2 t336 a1_0 a1_1 a1_2 a3_0 a3_1))) else ((spec_l06Code.f a0 a1_0 a1_1 a1_2 false).bind fun t337 => (spec_ShiftedGroup.j0 k l2 t337 a1_0 a1_1 a1_2 a3_0 a3_1)))
def spec_ShiftedGroup.T1 : Bool × List (List Nat × List Nat) := (true, [([], []), ([], []), ([], []), ([], []), ([], []), ([2, 3, 4], [2, 3, 4]), ([5, 5], [5]), ([6], [6]), ([7, 6, 6], [6, 7]), ([6, 8], [6, 8]), ([0, 1, 9, 8], [0, 1, 9]), ([10, 10, 0, 1, 2, 3, 4, 5, 6, 7, 8, 9, 10], [10])])
def spec_ShiftedGroup.B1 : List Nat := [0, 0, 0, 0, 0, 28, 60, 124, 252, 508, 1023, 2047]
theorem spec_ShiftedGroup.tab1 : rtab .any (opsOf Tryz.f16 1) = spec_ShiftedGroup.T1 := by kernel_rfl
theorem spec_ShiftedGroup.bits1 : waitsOk spec_ShiftedGroup.T1.2 spec_ShiftedGroup.B1 = true := by kernel_rfl
def spec_ShiftedGroup.T8 : Bool × List (List Nat × List Nat) := (true, [([], []), ([], []), ([0, 1], [0, 1]), ([2], [2]), ([3], [3]), ([], []), ([], []), ([], []), ([6, 7], [6, 7]), ([8], [8]), ([9], [9]), ([], []), ([10, 11], [10, 11]), ([12, 12], [12]), ([5, 13, 13], [5, 13]), ([4, 14, 14], [4, 14]), ([], []), ([16, 15, 15, 0, 1, 2, 3, 4, 5, 6, 7, 8, 9, 10, 11, 12, 13, 14, 15, 16], [15, 16])])
def spec_ShiftedGroup.B8 : List Nat := [0, 0, 3, 7, 15, 0, 0, 0, 192, 448, 960, 0, 4032, 8128, 16352, 32767, 0, 131071]
theorem spec_ShiftedGroup.tab8 : rtab .any (opsOf Tryz.f16 8) = spec_ShiftedGroup.T8 := by kernel_rfl
theorem spec_ShiftedGroup.bits8 : waitsOk spec_ShiftedGroup.T8.2 spec_ShiftedGroup.B8 = true := by kernel_rfl
def spec_ShiftedGroup.T9 : Bool × List (List Nat × List Nat) := (true, [([], []), ([], []), ([], []), ([], []), ([2, 3], [2, 3]), ([4], [4]), ([5], [5]), ([], []), ([6, 7], [6, 7]), ([1, 8], [1, 8]), ([0, 9, 9], [0, 9]), ([10, 10, 0, 1, 2, 3, 4, 5, 6, 7, 8, 9, 10], [0, 10])])
def spec_ShiftedGroup.B9 : List Nat := [0, 0, 0, 0, 12, 28, 60, 0, 252, 510, 1023, 2047]
theorem spec_ShiftedGroup.tab9 : rtab .any (opsOf Tryz.f16 9) = spec_ShiftedGroup.T9 := by kernel_rfl
theorem spec_ShiftedGroup.bits9 : waitsOk spec_ShiftedGroup.T9.2 spec_ShiftedGroup.B9 = true := by kernel_rfl
set_option maxHeartbeats 8000000 in
set_option maxRecDepth 100000 in
theorem spec_ShiftedGroup.calls (k : Nat) (a0 : Int) (a1_0 : Int) (a1_1 : Int) (a1_2 : Int) (A2 : Option Addr) (c2 : Nat) (l2 : List (S48)) (a3_0 : Int) (a3_1 : Int) (r1 : List (S48)) (r2 : Int) (w : World) (hr2 : Kd.C k48 w A2 l2.length l2) (hc2 : l2.length ≤ c2) (h : spec_ShiftedGroup.f k a0 a1_0 a1_1 a1_2 l2 a3_0 a3_1 = some (r1, r2)) :
  Calls Tryz.prog 16 #[.int .i64 a0, .agg #[.int .i64 a1_0, .int .i64 a1_1, .int .i64 a1_2], .slice A2 l2.length c2, .agg #[.int .i64 a3_0, .int .i64 a3_1]] w fun e w' => ∃ v0_ : Value, e = .returned (.tuple #[v0_, .int .i64 r2]) ∧ Kd.R k48 48 w' w.heap.size (fun _ => True) v0_ r1 ∧ Below w.heap.size w w' := by
 have hu29 := Tryz.underlying29
 have hu38 := Tryz.underlying38
 have hu46 := Tryz.underlying46
 have hu48 := Tryz.underlying48
 have HR2 := Aside0.mk hr2
 have HC2 := Aside0.mk hc2
 clear hr2 hc2
 have HB := asd (Below.refl w.heap.size w)
 have H : ((spec_IsGroup.f k a0 a1_0 a1_1 a1_2 l2).bind fun t334 => (if t334 = true then ((spec_IsVec.f a3_0 a3_1).bind fun t335 => ((spec_l06Code.f a0 a1_0 a1_1 a1_2 t335).bind fun t336 => (spec_ShiftedGroup.j0 k l2 t336 a1_0 a1_1 a1_2 a3_0 a3_1))) else ((spec_l06Code.f a0 a1_0 a1_1 a1_2 false).bind fun t337 => (spec_ShiftedGroup.j0 k l2 t337 a1_0 a1_1 a1_2 a3_0 a3_1)))) = some (r1, r2) := h
 clear h
 have HC5 := Aside0.mk H
 clear H
 go_enter Tryz.func16, Tryz.ntmps16
 go_upto_region 1 with (first | ((with_reducible refine gd 5 rfl ?_); refine bx #[.int .i64 a1_0, .int .i64 a1_1, .int .i64 a1_2] 29 ?_; intro gb332 hg w6 BK332 hb; have GE332 := ngw0 hg HB; replace HB := bS0 HB hb; clear hb hg) | ((with_reducible refine gd 7 rfl ?_); refine bx #[.int .i64 a3_0, .int .i64 a3_1] 38 ?_; intro gb333 hg w7 BK333 hb; have GE333 := ngw1 hg HB GE332; replace HB := bS1 HB GE332 hb; have NB332_333 := nlt hg BK332; have NB333_332 := nsy (nlt hg BK332); replace BK332 := bB BK332 hb; clear hb hg))
 (try simp only [Act.put, sA, sB, sC])
 go_cut [10] (fun v10 wc => ∃ (kq : Nat) (x10_4 : Int), v10 = .int .i64 x10_4 ∧ Aside0 (spec_ShiftedGroup.j0 kq l2 x10_4 a1_0 a1_1 a1_2 a3_0 a3_1 = some (r1, r2)) ∧ Aside0 (kq ≤ k) ∧ Aside0 (wc.heap[gb332]? = some (.cells #[.int .i64 a1_0, .int .i64 a1_1, .int .i64 a1_2] 29 (0, 0))) ∧ Aside0 (wc.heap[gb333]? = some (.cells #[.int .i64 a3_0, .int .i64 a3_1] 38 (0, 0))) ∧ Aside0 (Below w.heap.size w wc))
 case first =>
  have H := HC5.out
  clear HC5
  obtain ⟨t334, A8, H⟩ := ob H
  try dsimp only at H
  by_cases c9 : t334 = true
  subst c9
  replace H := ifT H
  obtain ⟨t335, A10, H⟩ := ob H
  try dsimp only at H
  obtain ⟨t336, A11, H⟩ := ob H
  try dsimp only at H
  have H' := Aside0.mk H
  clear H
  rotate_left
  replace c9 := Bool.eq_false_iff.mpr c9
  subst c9
  replace H := ifF H
  obtain ⟨t337, A16, H⟩ := ob H
  try dsimp only at H
  have H' := Aside0.mk H
  clear H
  rotate_left
  all_goals
   try go_wp2
   replace BK332 := asd (blk_drew BK332.out)
   replace BK333 := asd (blk_drew BK333.out)
   replace HB := asd (below_drew1 HB.out)
  refine sh 12 (cb3 BK332 (eb2 BK333)) (fun hHeld => ?_); refine with_tabW spec_ShiftedGroup.tab1 spec_ShiftedGroup.bits1 (fun HT_ HW_ => ?_)
  rotate_left
  refine sh 12 (eb3 BK332) (fun hHeld => ?_); refine with_tabW spec_ShiftedGroup.tab1 spec_ShiftedGroup.bits1 (fun HT_ HW_ => ?_)
  rotate_left
  all_goals
   generalize w7.drew = w12 at BK332 BK333 HB hHeld ⊢
   refine pu 0 (some 14) (bT 12 1) HT_ ?_
   refine pu 2 (some 16) (bs 12 5) HT_ ?_
   refine pu 4 (some 18) (bs 12 21) HT_ ?_
   refine ta 1 (some 15) (bs 12 23) HT_ HW_ hHeld ?_
   refine ta 3 (some 17) (bT 12 5) HT_ HW_ hHeld ?_
   refine ro 5 (some 19) (bT 12 6) HT_ (fun K hK => ?_)
   refine gs Tryz.func39 #[.int .i64 a0, .agg #[.int .i64 a1_0, .int .i64 a1_1, .int .i64 a1_2], .slice A2 l2.length c2] ?_
   with_reducible refine (spec_IsGroup.calls _ _ _ _ _ _ _ _ _ _ ?side1 ?side2 A8.out).mono ?_
   (case side1 => exact ks (Kd.C_below HR2.out HB.out))
   (case side2 => exact HC2.out)
   rintro e w13 ⟨rfl, hb⟩
   refine ⟨_, rfl, ?_⟩
   replace BK332 := bB BK332 hb
   replace BK333 := bB BK333 hb
   replace HB := bS2 HB GE332 GE333 hb
   (try clear hb)
   (try clear hb2)
   (try clear hk)
   (try clear hi)
  refine hK.out _ _ (cb3 BK332 (eb2 BK333)).out (fun hHeld => ?_)
  rotate_left
  refine hK.out _ _ (eb3 BK332).out (fun hHeld => ?_)
  rotate_left
  all_goals
   clear hK K
   refine norm_ (a' := ?_) ?_ ?_
   rotate_left
   ·show Act.put _ (some 19) _ = _
    simp only [Act.put, sA, sB, sC, i64_w, i32_w]
    rfl
   refine pu 6 (some 20) (bT 12 7) HT_ ?_
  refine ta 7 (some 21) (bT 12 8) HT_ HW_ hHeld ?_
  refine ro 8 (some 22) (bT 12 9) HT_ (fun K hK => ?_)
  refine gs Tryz.func40 #[.agg #[.int .i64 a3_0, .int .i64 a3_1]] ?_
  with_reducible refine (spec_IsVec.calls _ _ _ _ A10.out).mono ?_
  rotate_left
  refine pf 7 (some 21) (bT 12 8) HT_ ?_
  refine pf 8 (some 22) (bT 12 9) HT_ ?_
  refine pu 9 (some 23) (bT 12 10) HT_ ?_
  refine ro 10 (some 24) (bT 12 11) HT_ (fun K hK => ?_)
  refine gs Tryz.func31 #[.int .i64 a0, .agg #[.int .i64 a1_0, .int .i64 a1_1, .int .i64 a1_2], .bool false] ?_
  with_reducible refine (spec_l06Code.calls _ _ _ _ _ _ _ A16.out).mono ?_
  rotate_left
  all_goals
   rintro e w14 ⟨rfl, hb⟩
   refine ⟨_, rfl, ?_⟩
   replace BK332 := bB BK332 hb
   replace BK333 := bB BK333 hb
   replace HB := bS2 HB GE332 GE333 hb
   (try clear hb)
   (try clear hb2)
   (try clear hk)
   (try clear hi)
  focus
   refine hK.out _ _ (cb3 BK332 (eb2 BK333)).out (fun hHeld => ?_)
   clear hK K
   refine norm_ (a' := ?_) ?_ ?_
   rotate_left
   ·show Act.put _ (some 22) _ = _
    simp only [Act.put, sA, sB, sC, i64_w, i32_w]
    rfl
   refine pu 9 (some 23) (bT 12 10) HT_ ?_
   refine ro 10 (some 24) (bT 12 11) HT_ (fun K hK => ?_)
   refine gs Tryz.func31 #[.int .i64 a0, .agg #[.int .i64 a1_0, .int .i64 a1_1, .int .i64 a1_2], .bool t335] ?_
   with_reducible refine (spec_l06Code.calls _ _ _ _ _ _ _ A11.out).mono ?_
   rintro e w15 ⟨rfl, hb⟩
   refine ⟨_, rfl, ?_⟩
   replace BK332 := bB BK332 hb
   replace BK333 := bB BK333 hb
   replace HB := bS2 HB GE332 GE333 hb
   (try clear hb)
   (try clear hb2)
   (try clear hk)
   (try clear hi)
   refine hK.out _ _ (cb3 BK332 (eb2 BK333)).out (fun hHeld => ?_)
  rotate_left
  refine hK.out _ _ (eb3 BK332).out (fun hHeld => ?_)
  rotate_left
  all_goals
   clear hK K
   refine norm_ (a' := ?_) ?_ ?_
   rotate_left
   ·show Act.put _ (some 24) _ = _
    simp only [Act.put, sA, sB, sC, i64_w, i32_w]
    rfl
   refine pu 11 (some 10) (bT 12 12) HT_ ?_
   refine done_ (done_of HT_.out (by kernel_rfl)) ?_
   try go_wp2
   go_meet
  ·case rel => exact ⟨_, (t336), (by first | rfl | (simp; done) | (simp [*]; done)), H', ⟨by first | omega | exact Nat.le_refl _⟩, ⟨bkp BK332⟩, ⟨bkp BK333⟩, ⟨bbw2 HB GE332 GE333⟩⟩
  ·case rel => exact ⟨_, (t337), (by first | rfl | (simp; done) | (simp [*]; done)), H', ⟨by first | omega | exact Nat.le_refl _⟩, ⟨bkp BK332⟩, ⟨bkp BK333⟩, ⟨bbw2 HB GE332 GE333⟩⟩
 case rest =>
  clear HC5
  try clear c1
  try clear c2
  try clear p2
  try clear c3
  try clear c4
  try clear c9
  try clear c16
  obtain ⟨kq, x10_4, rfl, HA, HJ4, BK332, BK333, HB⟩ := hcut
  cases kq with
  | zero => exact absurd HA.out (by simp [spec_ShiftedGroup.j0])
  | succ kj4 =>
   have H := HA.out
   clear HA
   simp only [spec_ShiftedGroup.j0] at H
   by_cases c20 : x10_4 = 0
   ·rw [if_pos c20] at H
    have c20b0 : (x10_4 == 0) = true := beq_iff_eq.mpr c20
    have c20b1 : (x10_4 != 0) = false := bne_eq_false_iff_eq.mpr c20
    clear c20
    obtain ⟨y338, hy338⟩ : ∃ y_ : List (S48), y_ = (([] : List (S48))) := ⟨_, rfl⟩
    replace H : (spec_ShiftedGroup.l0 kj4 l2 y338 0 a1_0 a1_1 a1_2 a3_0 a3_1) = some (r1, r2) := by first | (rw [hy338]; with_reducible exact H) | (have H2_ := (Option.bind_some _ _).symm.trans H; rw [hy338]; with_reducible exact H2_) | (have H2_ := (Option.bind_some _ _).symm.trans H; with_reducible exact H2_) | with_reducible exact H | (rw [hy338]; exact H) | exact H
    have Ny338 := Aside0.mk hy338
    clear hy338
    have H' := Aside0.mk H
    clear H
    go_wp2_with (first | ((with_reducible refine gd 28 rfl ?_); refine Kd.R_lit k48 _ 48 ?hg (N := 28) ?hd (xs := ([] : List (S48))) (inner := []) (ok := fun _ => True) (okp := fun _ => True) ?hr ?hp (fun _ hk => hk) trivial (Below.refl _ _) (Nat.le_refl _) (by simp) ?_; (case hd => rfl); (case hg => rfl); (case hr => first | (go_simp; done) | (go_simp; rfl)); (case hp => exact (Reps.none _ _)); intro v339 w21 ho22 hb hg_ hnew_; clear hg_ hnew_; (first | rw [← Ny338.out] at ho22 | (simp only [Int.reduceToNat] at ho22; rw [← Ny338.out] at ho22)); have HO340 := asd (Kd.R_lower ho22 (bsz2 HB GE332 GE333)); replace BK332 := bB BK332 hb; replace BK333 := bB BK333 hb; replace HB := bS2 HB GE332 GE333 hb; clear hb ho22))
    go_loopg [11, 12] kj4 (fun kq v11 v12 w' => ∃ (x11_2 : List (S48)) (x12_2 : Int), v12 = .int .i64 x12_2 ∧ Aside0 (spec_ShiftedGroup.l0 kq l2 x11_2 x12_2 a1_0 a1_1 a1_2 a3_0 a3_1 = some (r1, r2)) ∧ Aside0 (kq ≤ kj4) ∧ Aside0 (Kd.R k48 48 w' w.heap.size (fun _ => True) v11 x11_2) ∧ Aside0 (w'.heap[gb332]? = some (.cells #[.int .i64 a1_0, .int .i64 a1_1, .int .i64 a1_2] 29 (0, 0))) ∧ Aside0 (w'.heap[gb333]? = some (.cells #[.int .i64 a3_0, .int .i64 a3_1] 38 (0, 0))) ∧ Aside0 (Below w.heap.size w w'))
    case atStart => exact ⟨(y338), (0), (by first | rfl | (simp; done) | (simp [*]; done)), H', ⟨Nat.le_refl _⟩, ⟨by (with_reducible repeat (first | apply Kd.R_alloc | apply Kd.R_drewN | apply Kd.R_drew)); exact HO340.out⟩, ⟨bkp BK332⟩, ⟨bkp BK333⟩, ⟨bbw2 HB GE332 GE333⟩⟩
    case round =>
     clear H'
     try clear c1
     try clear c2
     try clear p2
     try clear c3
     try clear c4
     try clear c9
     try clear c16
     try clear c20
     try clear c20b0
     try clear c20b1
     try clear p2
     obtain ⟨x11_2, x12_2, rfl, HA, HK2, HO_11, BK332, BK333, HB⟩ := hrel
     cases gk with
     | zero => exact absurd HA.out (by simp [spec_ShiftedGroup.l0])
     | succ k2 =>
      have H := HA.out
      clear HA
      simp only [spec_ShiftedGroup.l0] at H
      by_cases c23 : x12_2 < (l2.length : Int)
      rw [if_pos c23] at H
      have c23b0 := decide_eq_true c23
      clear c23
      by_cases c24 : 0 ≤ x12_2
      rw [if_pos c24] at H
      have c24b0 := decide_eq_true c24
      clear c24
      obtain ⟨⟨t343, t344⟩, A25, H⟩ := ob H
      try dsimp only at H
      obtain ⟨⟨t345, t346⟩, A26, H⟩ := ob H
      try dsimp only at H
      obtain ⟨⟨t347, t348⟩, A27, H⟩ := ob H
      try dsimp only at H
      obtain ⟨⟨t349, t350⟩, A28, H⟩ := ob H
      try dsimp only at H
      obtain ⟨⟨t353, t354, t355, t356, t357, t358⟩, A29, H⟩ := ob H
      try dsimp only at H
      by_cases c30 : (x11_2.length < 2932031007402 ∧ spec_l06Insert.ok x11_2 (⟨(⟨t353, t354, t355, t356⟩ : S46), (⟨t357, t358⟩ : S38)⟩ : S48) = true)
      rw [if_pos c30] at H
      have LMc30 := Aside0.mk c30
      clear c30
      obtain ⟨y359, hy359⟩ : ∃ y_ : List (S48), y_ = (spec_l06Insert.ins x11_2 (⟨(⟨t353, t354, t355, t356⟩ : S46), (⟨t357, t358⟩ : S38)⟩ : S48)) := ⟨_, rfl⟩
      replace H : (spec_ShiftedGroup.l0 k2 l2 y359 (wrap64 (x12_2 + 1)) a1_0 a1_1 a1_2 a3_0 a3_1) = some (r1, r2) := by first | (rw [hy359]; with_reducible exact H) | (have H2_ := (Option.bind_some _ _).symm.trans H; rw [hy359]; with_reducible exact H2_) | (have H2_ := (Option.bind_some _ _).symm.trans H; with_reducible exact H2_) | with_reducible exact H | (rw [hy359]; exact H) | exact H
      have Ny359 := Aside0.mk hy359
      clear hy359
      have H' := Aside0.mk H
      clear H
      rotate_left
      ·rw [if_neg c30] at H
       exact absurd H (by simp)
      ·rw [if_neg c24] at H
       exact absurd H (by simp)
      rw [if_neg c23] at H
      have c23b0 := decide_eq_false c23
      clear c23
      rotate_left
      ·try go_wp2
       replace HO_11 := asd (Kd.R_drew HO_11.out)
       replace BK332 := asd (blk_drew BK332.out)
       replace BK333 := asd (blk_drew BK333.out)
       replace HB := asd (below_drew1 HB.out)
       obtain ⟨p341, q341, ad341, e341, hw341_0, hw341_1, hw341_2, hw341_3, hw341_4, hw341_5, hx341_0, hx341_1, hx341_2, hx341_3, hx341_4, hx341_5⟩ := at_T48w HR2.out HB x12_2
       cases e341
       obtain ⟨p342, q342, ad342, e342, hw342_0, hw342_1, hw342_2, hw342_3, hw342_4, hw342_5, hx342_0, hx342_1, hx342_2, hx342_3, hx342_4, hx342_5⟩ := at_T48w HR2.out HB x12_2
       obtain rfl : ad341 = ad342 := (by injection e342)
       refine sh 18 (cb2 BK333 (cx6 HB hw341_0 hw341_1 hw341_2 hw341_3 hw341_4 hw341_5 (ex6 HB hw342_0 hw342_1 hw342_2 hw342_3 hw342_4 hw342_5))) (fun hHeld => ?_); refine with_tabW spec_ShiftedGroup.tab8 spec_ShiftedGroup.bits8 (fun HT_ HW_ => ?_)
       generalize wr.drew = w31 at HO_11 BK332 BK333 HB hx341_0 hx341_1 hx341_2 hx341_3 hx341_4 hx341_5 hx342_0 hx342_1 hx342_2 hx342_3 hx342_4 hx342_5 hHeld ⊢
       refine pu 0 (some 35) (bT 18 1) HT_ ?_
       refine pu 1 (some 36) (bT 18 2) HT_ ?_
       refine pu 2 (some 37) (bT 18 3) HT_ ?_
       refine pu 3 (some 38) (bT 18 4) HT_ ?_
       refine pu 6 (some 41) (bs 18 79) HT_ ?_
       refine pu 7 (some 42) (bs 18 207) HT_ ?_
       refine pu 8 (some 43) (bs 18 463) HT_ ?_
       refine pu 9 (some 44) (bs 18 975) HT_ ?_
       refine ta 4 (some 39) (bs 18 991) HT_ HW_ hHeld ?_
       refine ta 5 (some 40) (bT 18 10) HT_ HW_ hHeld ?_
       refine ta 10 (some 45) (bT 18 11) HT_ HW_ hHeld ?_
       refine ta 11 (some 46) (bT 18 12) HT_ HW_ hHeld ?_
       refine join_ (σ := Nat) 1 (bT 18 17) (fun s_ => [(47, .agg #[.int .i64 t343, .int .i64 t344]), (48, .agg #[.int .i64 t345, .int .i64 t346]), (49, .agg #[.int .i64 t347, .int .i64 t348]), (50, .agg #[.int .i64 t349, .int .i64 t350]), (13, .pointer (some ⟨s_, 0, none⟩))]) (fun s_ w' => (w'.cell? ⟨gb333, 0, none⟩ = some (.int .i64 a3_0) ∧ w'.cell? ⟨gb333, 1, none⟩ = some (.int .i64 a3_1) ∧ w'.cell? (ad341.add ((x12_2).toNat * 6)) = some (.int .i64 ((rd_T48 l2 x12_2).f0.f0)) ∧ w'.cell? ⟨(ad341.add ((x12_2).toNat * 6)).block, (ad341.add ((x12_2).toNat * 6)).off + 1, none⟩ = some (.int .i64 ((rd_T48 l2 x12_2).f0.f1)) ∧ w'.cell? ⟨(ad341.add ((x12_2).toNat * 6)).block, (ad341.add ((x12_2).toNat * 6)).off + 2, none⟩ = some (.int .i64 ((rd_T48 l2 x12_2).f0.f2)) ∧ w'.cell? ⟨(ad341.add ((x12_2).toNat * 6)).block, (ad341.add ((x12_2).toNat * 6)).off + 3, none⟩ = some (.int .i64 ((rd_T48 l2 x12_2).f0.f3)) ∧ w'.cell? ⟨(ad341.add ((x12_2).toNat * 6)).block, (ad341.add ((x12_2).toNat * 6)).off + 4, none⟩ = some (.int .i64 ((rd_T48 l2 x12_2).f1.f0)) ∧ w'.cell? ⟨(ad341.add ((x12_2).toNat * 6)).block, (ad341.add ((x12_2).toNat * 6)).off + 5, none⟩ = some (.int .i64 ((rd_T48 l2 x12_2).f1.f1)) ∧ w'.cell? (ad341.add ((x12_2).toNat * 6)) = some (.int .i64 ((rd_T48 l2 x12_2).f0.f0)) ∧ w'.cell? ⟨(ad341.add ((x12_2).toNat * 6)).block, (ad341.add ((x12_2).toNat * 6)).off + 1, none⟩ = some (.int .i64 ((rd_T48 l2 x12_2).f0.f1)) ∧ w'.cell? ⟨(ad341.add ((x12_2).toNat * 6)).block, (ad341.add ((x12_2).toNat * 6)).off + 2, none⟩ = some (.int .i64 ((rd_T48 l2 x12_2).f0.f2)) ∧ w'.cell? ⟨(ad341.add ((x12_2).toNat * 6)).block, (ad341.add ((x12_2).toNat * 6)).off + 3, none⟩ = some (.int .i64 ((rd_T48 l2 x12_2).f0.f3)) ∧ w'.cell? ⟨(ad341.add ((x12_2).toNat * 6)).block, (ad341.add ((x12_2).toNat * 6)).off + 4, none⟩ = some (.int .i64 ((rd_T48 l2 x12_2).f1.f0)) ∧ w'.cell? ⟨(ad341.add ((x12_2).toNat * 6)).block, (ad341.add ((x12_2).toNat * 6)).off + 5, none⟩ = some (.int .i64 ((rd_T48 l2 x12_2).f1.f1))) ∧ (Kd.R k48 48 w' w.heap.size (fun _ => True) u11 x11_2) ∧ (w'.heap[gb332]? = some (.cells #[.int .i64 a1_0, .int .i64 a1_1, .int .i64 a1_2] 29 (0, 0))) ∧ (w'.heap[gb333]? = some (.cells #[.int .i64 a3_0, .int .i64 a3_1] 38 (0, 0))) ∧ (w'.heap[s_]? = some (.cells #[.int .i64 0, .int .i64 0] 38 (0, 0))) ∧ (w.heap.size ≤ s_) ∧ (w.heap.size ≤ s_) ∧ (gb332 ≠ s_) ∧ (s_ ≠ gb332) ∧ (gb333 ≠ s_) ∧ (s_ ≠ gb333) ∧ (Below w.heap.size w w')) ?_ ?_
       rotate_left
       ·intro hJ12_13_14_15_16
        refine join_ (σ := Unit) 2 (bT 18 16) (fun s_ => [(47, .agg #[.int .i64 t343, .int .i64 t344]), (48, .agg #[.int .i64 t345, .int .i64 t346]), (49, .agg #[.int .i64 t347, .int .i64 t348]), (50, .agg #[.int .i64 t349, .int .i64 t350])]) (fun s_ w' => (w'.cell? ⟨gb333, 0, none⟩ = some (.int .i64 a3_0) ∧ w'.cell? ⟨gb333, 1, none⟩ = some (.int .i64 a3_1) ∧ w'.cell? (ad341.add ((x12_2).toNat * 6)) = some (.int .i64 ((rd_T48 l2 x12_2).f0.f0)) ∧ w'.cell? ⟨(ad341.add ((x12_2).toNat * 6)).block, (ad341.add ((x12_2).toNat * 6)).off + 1, none⟩ = some (.int .i64 ((rd_T48 l2 x12_2).f0.f1)) ∧ w'.cell? ⟨(ad341.add ((x12_2).toNat * 6)).block, (ad341.add ((x12_2).toNat * 6)).off + 2, none⟩ = some (.int .i64 ((rd_T48 l2 x12_2).f0.f2)) ∧ w'.cell? ⟨(ad341.add ((x12_2).toNat * 6)).block, (ad341.add ((x12_2).toNat * 6)).off + 3, none⟩ = some (.int .i64 ((rd_T48 l2 x12_2).f0.f3)) ∧ w'.cell? ⟨(ad341.add ((x12_2).toNat * 6)).block, (ad341.add ((x12_2).toNat * 6)).off + 4, none⟩ = some (.int .i64 ((rd_T48 l2 x12_2).f1.f0)) ∧ w'.cell? ⟨(ad341.add ((x12_2).toNat * 6)).block, (ad341.add ((x12_2).toNat * 6)).off + 5, none⟩ = some (.int .i64 ((rd_T48 l2 x12_2).f1.f1)) ∧ w'.cell? (ad341.add ((x12_2).toNat * 6)) = some (.int .i64 ((rd_T48 l2 x12_2).f0.f0)) ∧ w'.cell? ⟨(ad341.add ((x12_2).toNat * 6)).block, (ad341.add ((x12_2).toNat * 6)).off + 1, none⟩ = some (.int .i64 ((rd_T48 l2 x12_2).f0.f1)) ∧ w'.cell? ⟨(ad341.add ((x12_2).toNat * 6)).block, (ad341.add ((x12_2).toNat * 6)).off + 2, none⟩ = some (.int .i64 ((rd_T48 l2 x12_2).f0.f2)) ∧ w'.cell? ⟨(ad341.add ((x12_2).toNat * 6)).block, (ad341.add ((x12_2).toNat * 6)).off + 3, none⟩ = some (.int .i64 ((rd_T48 l2 x12_2).f0.f3)) ∧ w'.cell? ⟨(ad341.add ((x12_2).toNat * 6)).block, (ad341.add ((x12_2).toNat * 6)).off + 4, none⟩ = some (.int .i64 ((rd_T48 l2 x12_2).f1.f0)) ∧ w'.cell? ⟨(ad341.add ((x12_2).toNat * 6)).block, (ad341.add ((x12_2).toNat * 6)).off + 5, none⟩ = some (.int .i64 ((rd_T48 l2 x12_2).f1.f1))) ∧ (Kd.R k48 48 w' w.heap.size (fun _ => True) u11 x11_2) ∧ (w'.heap[gb332]? = some (.cells #[.int .i64 a1_0, .int .i64 a1_1, .int .i64 a1_2] 29 (0, 0))) ∧ (w'.heap[gb333]? = some (.cells #[.int .i64 a3_0, .int .i64 a3_1] 38 (0, 0))) ∧ (Below w.heap.size w w')) ?_ ?_
        rotate_left
        ·intro hJ12_13_14_15
         refine join_ (σ := Nat) 2 #[true, true, true, true, true, true, true, true, true, true, true, true, true, true, true, false, true, false] (fun s_ => [(47, .agg #[.int .i64 t343, .int .i64 t344]), (48, .agg #[.int .i64 t345, .int .i64 t346]), (49, .agg #[.int .i64 t347, .int .i64 t348]), (13, .pointer (some ⟨s_, 0, none⟩))]) (fun s_ w' => (w'.cell? ⟨gb333, 0, none⟩ = some (.int .i64 a3_0) ∧ w'.cell? ⟨gb333, 1, none⟩ = some (.int .i64 a3_1) ∧ w'.cell? (ad341.add ((x12_2).toNat * 6)) = some (.int .i64 ((rd_T48 l2 x12_2).f0.f0)) ∧ w'.cell? ⟨(ad341.add ((x12_2).toNat * 6)).block, (ad341.add ((x12_2).toNat * 6)).off + 1, none⟩ = some (.int .i64 ((rd_T48 l2 x12_2).f0.f1)) ∧ w'.cell? ⟨(ad341.add ((x12_2).toNat * 6)).block, (ad341.add ((x12_2).toNat * 6)).off + 2, none⟩ = some (.int .i64 ((rd_T48 l2 x12_2).f0.f2)) ∧ w'.cell? ⟨(ad341.add ((x12_2).toNat * 6)).block, (ad341.add ((x12_2).toNat * 6)).off + 3, none⟩ = some (.int .i64 ((rd_T48 l2 x12_2).f0.f3)) ∧ w'.cell? ⟨(ad341.add ((x12_2).toNat * 6)).block, (ad341.add ((x12_2).toNat * 6)).off + 4, none⟩ = some (.int .i64 ((rd_T48 l2 x12_2).f1.f0)) ∧ w'.cell? ⟨(ad341.add ((x12_2).toNat * 6)).block, (ad341.add ((x12_2).toNat * 6)).off + 5, none⟩ = some (.int .i64 ((rd_T48 l2 x12_2).f1.f1)) ∧ w'.cell? (ad341.add ((x12_2).toNat * 6)) = some (.int .i64 ((rd_T48 l2 x12_2).f0.f0)) ∧ w'.cell? ⟨(ad341.add ((x12_2).toNat * 6)).block, (ad341.add ((x12_2).toNat * 6)).off + 1, none⟩ = some (.int .i64 ((rd_T48 l2 x12_2).f0.f1)) ∧ w'.cell? ⟨(ad341.add ((x12_2).toNat * 6)).block, (ad341.add ((x12_2).toNat * 6)).off + 2, none⟩ = some (.int .i64 ((rd_T48 l2 x12_2).f0.f2)) ∧ w'.cell? ⟨(ad341.add ((x12_2).toNat * 6)).block, (ad341.add ((x12_2).toNat * 6)).off + 3, none⟩ = some (.int .i64 ((rd_T48 l2 x12_2).f0.f3)) ∧ w'.cell? ⟨(ad341.add ((x12_2).toNat * 6)).block, (ad341.add ((x12_2).toNat * 6)).off + 4, none⟩ = some (.int .i64 ((rd_T48 l2 x12_2).f1.f0)) ∧ w'.cell? ⟨(ad341.add ((x12_2).toNat * 6)).block, (ad341.add ((x12_2).toNat * 6)).off + 5, none⟩ = some (.int .i64 ((rd_T48 l2 x12_2).f1.f1))) ∧ (Kd.R k48 48 w' w.heap.size (fun _ => True) u11 x11_2) ∧ (w'.heap[gb332]? = some (.cells #[.int .i64 a1_0, .int .i64 a1_1, .int .i64 a1_2] 29 (0, 0))) ∧ (w'.heap[gb333]? = some (.cells #[.int .i64 a3_0, .int .i64 a3_1] 38 (0, 0))) ∧ (w'.heap[s_]? = some (.cells #[.int .i64 0, .int .i64 0] 38 (0, 0))) ∧ (w.heap.size ≤ s_) ∧ (w.heap.size ≤ s_) ∧ (gb332 ≠ s_) ∧ (s_ ≠ gb332) ∧ (gb333 ≠ s_) ∧ (s_ ≠ gb333) ∧ (Below w.heap.size w w')) ?_ ?_
         rotate_left
         ·intro hJ12_13_14_16
          refine join_ (σ := Unit) 3 (bT 18 15) (fun s_ => [(47, .agg #[.int .i64 t343, .int .i64 t344]), (48, .agg #[.int .i64 t345, .int .i64 t346]), (49, .agg #[.int .i64 t347, .int .i64 t348])]) (fun s_ w' => (w'.cell? ⟨gb333, 0, none⟩ = some (.int .i64 a3_0) ∧ w'.cell? ⟨gb333, 1, none⟩ = some (.int .i64 a3_1) ∧ w'.cell? (ad341.add ((x12_2).toNat * 6)) = some (.int .i64 ((rd_T48 l2 x12_2).f0.f0)) ∧ w'.cell? ⟨(ad341.add ((x12_2).toNat * 6)).block, (ad341.add ((x12_2).toNat * 6)).off + 1, none⟩ = some (.int .i64 ((rd_T48 l2 x12_2).f0.f1)) ∧ w'.cell? ⟨(ad341.add ((x12_2).toNat * 6)).block, (ad341.add ((x12_2).toNat * 6)).off + 2, none⟩ = some (.int .i64 ((rd_T48 l2 x12_2).f0.f2)) ∧ w'.cell? ⟨(ad341.add ((x12_2).toNat * 6)).block, (ad341.add ((x12_2).toNat * 6)).off + 3, none⟩ = some (.int .i64 ((rd_T48 l2 x12_2).f0.f3)) ∧ w'.cell? ⟨(ad341.add ((x12_2).toNat * 6)).block, (ad341.add ((x12_2).toNat * 6)).off + 4, none⟩ = some (.int .i64 ((rd_T48 l2 x12_2).f1.f0)) ∧ w'.cell? ⟨(ad341.add ((x12_2).toNat * 6)).block, (ad341.add ((x12_2).toNat * 6)).off + 5, none⟩ = some (.int .i64 ((rd_T48 l2 x12_2).f1.f1)) ∧ w'.cell? (ad341.add ((x12_2).toNat * 6)) = some (.int .i64 ((rd_T48 l2 x12_2).f0.f0)) ∧ w'.cell? ⟨(ad341.add ((x12_2).toNat * 6)).block, (ad341.add ((x12_2).toNat * 6)).off + 1, none⟩ = some (.int .i64 ((rd_T48 l2 x12_2).f0.f1)) ∧ w'.cell? ⟨(ad341.add ((x12_2).toNat * 6)).block, (ad341.add ((x12_2).toNat * 6)).off + 2, none⟩ = some (.int .i64 ((rd_T48 l2 x12_2).f0.f2)) ∧ w'.cell? ⟨(ad341.add ((x12_2).toNat * 6)).block, (ad341.add ((x12_2).toNat * 6)).off + 3, none⟩ = some (.int .i64 ((rd_T48 l2 x12_2).f0.f3)) ∧ w'.cell? ⟨(ad341.add ((x12_2).toNat * 6)).block, (ad341.add ((x12_2).toNat * 6)).off + 4, none⟩ = some (.int .i64 ((rd_T48 l2 x12_2).f1.f0)) ∧ w'.cell? ⟨(ad341.add ((x12_2).toNat * 6)).block, (ad341.add ((x12_2).toNat * 6)).off + 5, none⟩ = some (.int .i64 ((rd_T48 l2 x12_2).f1.f1))) ∧ (Kd.R k48 48 w' w.heap.size (fun _ => True) u11 x11_2) ∧ (w'.heap[gb332]? = some (.cells #[.int .i64 a1_0, .int .i64 a1_1, .int .i64 a1_2] 29 (0, 0))) ∧ (w'.heap[gb333]? = some (.cells #[.int .i64 a3_0, .int .i64 a3_1] 38 (0, 0))) ∧ (Below w.heap.size w w')) ?_ ?_
          rotate_left
          ·intro hJ12_13_14
           refine join_ (σ := Nat) 3 #[true, true, true, true, true, true, true, true, true, true, true, true, true, true, false, false, true, false] (fun s_ => [(47, .agg #[.int .i64 t343, .int .i64 t344]), (48, .agg #[.int .i64 t345, .int .i64 t346]), (13, .pointer (some ⟨s_, 0, none⟩))]) (fun s_ w' => (w'.cell? ⟨gb333, 0, none⟩ = some (.int .i64 a3_0) ∧ w'.cell? ⟨gb333, 1, none⟩ = some (.int .i64 a3_1) ∧ w'.cell? (ad341.add ((x12_2).toNat * 6)) = some (.int .i64 ((rd_T48 l2 x12_2).f0.f0)) ∧ w'.cell? ⟨(ad341.add ((x12_2).toNat * 6)).block, (ad341.add ((x12_2).toNat * 6)).off + 1, none⟩ = some (.int .i64 ((rd_T48 l2 x12_2).f0.f1)) ∧ w'.cell? ⟨(ad341.add ((x12_2).toNat * 6)).block, (ad341.add ((x12_2).toNat * 6)).off + 2, none⟩ = some (.int .i64 ((rd_T48 l2 x12_2).f0.f2)) ∧ w'.cell? ⟨(ad341.add ((x12_2).toNat * 6)).block, (ad341.add ((x12_2).toNat * 6)).off + 3, none⟩ = some (.int .i64 ((rd_T48 l2 x12_2).f0.f3)) ∧ w'.cell? ⟨(ad341.add ((x12_2).toNat * 6)).block, (ad341.add ((x12_2).toNat * 6)).off + 4, none⟩ = some (.int .i64 ((rd_T48 l2 x12_2).f1.f0)) ∧ w'.cell? ⟨(ad341.add ((x12_2).toNat * 6)).block, (ad341.add ((x12_2).toNat * 6)).off + 5, none⟩ = some (.int .i64 ((rd_T48 l2 x12_2).f1.f1)) ∧ w'.cell? (ad341.add ((x12_2).toNat * 6)) = some (.int .i64 ((rd_T48 l2 x12_2).f0.f0)) ∧ w'.cell? ⟨(ad341.add ((x12_2).toNat * 6)).block, (ad341.add ((x12_2).toNat * 6)).off + 1, none⟩ = some (.int .i64 ((rd_T48 l2 x12_2).f0.f1)) ∧ w'.cell? ⟨(ad341.add ((x12_2).toNat * 6)).block, (ad341.add ((x12_2).toNat * 6)).off + 2, none⟩ = some (.int .i64 ((rd_T48 l2 x12_2).f0.f2)) ∧ w'.cell? ⟨(ad341.add ((x12_2).toNat * 6)).block, (ad341.add ((x12_2).toNat * 6)).off + 3, none⟩ = some (.int .i64 ((rd_T48 l2 x12_2).f0.f3)) ∧ w'.cell? ⟨(ad341.add ((x12_2).toNat * 6)).block, (ad341.add ((x12_2).toNat * 6)).off + 4, none⟩ = some (.int .i64 ((rd_T48 l2 x12_2).f1.f0)) ∧ w'.cell? ⟨(ad341.add ((x12_2).toNat * 6)).block, (ad341.add ((x12_2).toNat * 6)).off + 5, none⟩ = some (.int .i64 ((rd_T48 l2 x12_2).f1.f1))) ∧ (Kd.R k48 48 w' w.heap.size (fun _ => True) u11 x11_2) ∧ (w'.heap[gb332]? = some (.cells #[.int .i64 a1_0, .int .i64 a1_1, .int .i64 a1_2] 29 (0, 0))) ∧ (w'.heap[gb333]? = some (.cells #[.int .i64 a3_0, .int .i64 a3_1] 38 (0, 0))) ∧ (w'.heap[s_]? = some (.cells #[.int .i64 0, .int .i64 0] 38 (0, 0))) ∧ (w.heap.size ≤ s_) ∧ (w.heap.size ≤ s_) ∧ (gb332 ≠ s_) ∧ (s_ ≠ gb332) ∧ (gb333 ≠ s_) ∧ (s_ ≠ gb333) ∧ (Below w.heap.size w w')) ?_ ?_
           rotate_left
           ·intro hJ12_13_16
            refine join_ (σ := Unit) 4 (bT 18 14) (fun s_ => [(47, .agg #[.int .i64 t343, .int .i64 t344]), (48, .agg #[.int .i64 t345, .int .i64 t346])]) (fun s_ w' => (w'.cell? ⟨gb333, 0, none⟩ = some (.int .i64 a3_0) ∧ w'.cell? ⟨gb333, 1, none⟩ = some (.int .i64 a3_1) ∧ w'.cell? (ad341.add ((x12_2).toNat * 6)) = some (.int .i64 ((rd_T48 l2 x12_2).f0.f0)) ∧ w'.cell? ⟨(ad341.add ((x12_2).toNat * 6)).block, (ad341.add ((x12_2).toNat * 6)).off + 1, none⟩ = some (.int .i64 ((rd_T48 l2 x12_2).f0.f1)) ∧ w'.cell? ⟨(ad341.add ((x12_2).toNat * 6)).block, (ad341.add ((x12_2).toNat * 6)).off + 2, none⟩ = some (.int .i64 ((rd_T48 l2 x12_2).f0.f2)) ∧ w'.cell? ⟨(ad341.add ((x12_2).toNat * 6)).block, (ad341.add ((x12_2).toNat * 6)).off + 3, none⟩ = some (.int .i64 ((rd_T48 l2 x12_2).f0.f3)) ∧ w'.cell? ⟨(ad341.add ((x12_2).toNat * 6)).block, (ad341.add ((x12_2).toNat * 6)).off + 4, none⟩ = some (.int .i64 ((rd_T48 l2 x12_2).f1.f0)) ∧ w'.cell? ⟨(ad341.add ((x12_2).toNat * 6)).block, (ad341.add ((x12_2).toNat * 6)).off + 5, none⟩ = some (.int .i64 ((rd_T48 l2 x12_2).f1.f1)) ∧ w'.cell? (ad341.add ((x12_2).toNat * 6)) = some (.int .i64 ((rd_T48 l2 x12_2).f0.f0)) ∧ w'.cell? ⟨(ad341.add ((x12_2).toNat * 6)).block, (ad341.add ((x12_2).toNat * 6)).off + 1, none⟩ = some (.int .i64 ((rd_T48 l2 x12_2).f0.f1)) ∧ w'.cell? ⟨(ad341.add ((x12_2).toNat * 6)).block, (ad341.add ((x12_2).toNat * 6)).off + 2, none⟩ = some (.int .i64 ((rd_T48 l2 x12_2).f0.f2)) ∧ w'.cell? ⟨(ad341.add ((x12_2).toNat * 6)).block, (ad341.add ((x12_2).toNat * 6)).off + 3, none⟩ = some (.int .i64 ((rd_T48 l2 x12_2).f0.f3)) ∧ w'.cell? ⟨(ad341.add ((x12_2).toNat * 6)).block, (ad341.add ((x12_2).toNat * 6)).off + 4, none⟩ = some (.int .i64 ((rd_T48 l2 x12_2).f1.f0)) ∧ w'.cell? ⟨(ad341.add ((x12_2).toNat * 6)).block, (ad341.add ((x12_2).toNat * 6)).off + 5, none⟩ = some (.int .i64 ((rd_T48 l2 x12_2).f1.f1))) ∧ (Kd.R k48 48 w' w.heap.size (fun _ => True) u11 x11_2) ∧ (w'.heap[gb332]? = some (.cells #[.int .i64 a1_0, .int .i64 a1_1, .int .i64 a1_2] 29 (0, 0))) ∧ (w'.heap[gb333]? = some (.cells #[.int .i64 a3_0, .int .i64 a3_1] 38 (0, 0))) ∧ (Below w.heap.size w w')) ?_ ?_
            rotate_left
            ·intro hJ12_13
             refine join_ (σ := Nat) 4 #[true, true, true, true, true, true, true, true, true, true, true, true, true, false, false, false, true, false] (fun s_ => [(47, .agg #[.int .i64 t343, .int .i64 t344]), (13, .pointer (some ⟨s_, 0, none⟩))]) (fun s_ w' => (w'.cell? ⟨gb333, 0, none⟩ = some (.int .i64 a3_0) ∧ w'.cell? ⟨gb333, 1, none⟩ = some (.int .i64 a3_1) ∧ w'.cell? (ad341.add ((x12_2).toNat * 6)) = some (.int .i64 ((rd_T48 l2 x12_2).f0.f0)) ∧ w'.cell? ⟨(ad341.add ((x12_2).toNat * 6)).block, (ad341.add ((x12_2).toNat * 6)).off + 1, none⟩ = some (.int .i64 ((rd_T48 l2 x12_2).f0.f1)) ∧ w'.cell? ⟨(ad341.add ((x12_2).toNat * 6)).block, (ad341.add ((x12_2).toNat * 6)).off + 2, none⟩ = some (.int .i64 ((rd_T48 l2 x12_2).f0.f2)) ∧ w'.cell? ⟨(ad341.add ((x12_2).toNat * 6)).block, (ad341.add ((x12_2).toNat * 6)).off + 3, none⟩ = some (.int .i64 ((rd_T48 l2 x12_2).f0.f3)) ∧ w'.cell? ⟨(ad341.add ((x12_2).toNat * 6)).block, (ad341.add ((x12_2).toNat * 6)).off + 4, none⟩ = some (.int .i64 ((rd_T48 l2 x12_2).f1.f0)) ∧ w'.cell? ⟨(ad341.add ((x12_2).toNat * 6)).block, (ad341.add ((x12_2).toNat * 6)).off + 5, none⟩ = some (.int .i64 ((rd_T48 l2 x12_2).f1.f1)) ∧ w'.cell? (ad341.add ((x12_2).toNat * 6)) = some (.int .i64 ((rd_T48 l2 x12_2).f0.f0)) ∧ w'.cell? ⟨(ad341.add ((x12_2).toNat * 6)).block, (ad341.add ((x12_2).toNat * 6)).off + 1, none⟩ = some (.int .i64 ((rd_T48 l2 x12_2).f0.f1)) ∧ w'.cell? ⟨(ad341.add ((x12_2).toNat * 6)).block, (ad341.add ((x12_2).toNat * 6)).off + 2, none⟩ = some (.int .i64 ((rd_T48 l2 x12_2).f0.f2)) ∧ w'.cell? ⟨(ad341.add ((x12_2).toNat * 6)).block, (ad341.add ((x12_2).toNat * 6)).off + 3, none⟩ = some (.int .i64 ((rd_T48 l2 x12_2).f0.f3)) ∧ w'.cell? ⟨(ad341.add ((x12_2).toNat * 6)).block, (ad341.add ((x12_2).toNat * 6)).off + 4, none⟩ = some (.int .i64 ((rd_T48 l2 x12_2).f1.f0)) ∧ w'.cell? ⟨(ad341.add ((x12_2).toNat * 6)).block, (ad341.add ((x12_2).toNat * 6)).off + 5, none⟩ = some (.int .i64 ((rd_T48 l2 x12_2).f1.f1))) ∧ (Kd.R k48 48 w' w.heap.size (fun _ => True) u11 x11_2) ∧ (w'.heap[gb332]? = some (.cells #[.int .i64 a1_0, .int .i64 a1_1, .int .i64 a1_2] 29 (0, 0))) ∧ (w'.heap[gb333]? = some (.cells #[.int .i64 a3_0, .int .i64 a3_1] 38 (0, 0))) ∧ (w'.heap[s_]? = some (.cells #[.int .i64 0, .int .i64 0] 38 (0, 0))) ∧ (w.heap.size ≤ s_) ∧ (w.heap.size ≤ s_) ∧ (gb332 ≠ s_) ∧ (s_ ≠ gb332) ∧ (gb333 ≠ s_) ∧ (s_ ≠ gb333) ∧ (Below w.heap.size w w')) ?_ ?_
             rotate_left
             ·intro hJ12_16
              refine join_ (σ := Unit) 5 (bT 18 13) (fun s_ => [(47, .agg #[.int .i64 t343, .int .i64 t344])]) (fun s_ w' => (w'.cell? ⟨gb333, 0, none⟩ = some (.int .i64 a3_0) ∧ w'.cell? ⟨gb333, 1, none⟩ = some (.int .i64 a3_1) ∧ w'.cell? (ad341.add ((x12_2).toNat * 6)) = some (.int .i64 ((rd_T48 l2 x12_2).f0.f0)) ∧ w'.cell? ⟨(ad341.add ((x12_2).toNat * 6)).block, (ad341.add ((x12_2).toNat * 6)).off + 1, none⟩ = some (.int .i64 ((rd_T48 l2 x12_2).f0.f1)) ∧ w'.cell? ⟨(ad341.add ((x12_2).toNat * 6)).block, (ad341.add ((x12_2).toNat * 6)).off + 2, none⟩ = some (.int .i64 ((rd_T48 l2 x12_2).f0.f2)) ∧ w'.cell? ⟨(ad341.add ((x12_2).toNat * 6)).block, (ad341.add ((x12_2).toNat * 6)).off + 3, none⟩ = some (.int .i64 ((rd_T48 l2 x12_2).f0.f3)) ∧ w'.cell? ⟨(ad341.add ((x12_2).toNat * 6)).block, (ad341.add ((x12_2).toNat * 6)).off + 4, none⟩ = some (.int .i64 ((rd_T48 l2 x12_2).f1.f0)) ∧ w'.cell? ⟨(ad341.add ((x12_2).toNat * 6)).block, (ad341.add ((x12_2).toNat * 6)).off + 5, none⟩ = some (.int .i64 ((rd_T48 l2 x12_2).f1.f1)) ∧ w'.cell? (ad341.add ((x12_2).toNat * 6)) = some (.int .i64 ((rd_T48 l2 x12_2).f0.f0)) ∧ w'.cell? ⟨(ad341.add ((x12_2).toNat * 6)).block, (ad341.add ((x12_2).toNat * 6)).off + 1, none⟩ = some (.int .i64 ((rd_T48 l2 x12_2).f0.f1)) ∧ w'.cell? ⟨(ad341.add ((x12_2).toNat * 6)).block, (ad341.add ((x12_2).toNat * 6)).off + 2, none⟩ = some (.int .i64 ((rd_T48 l2 x12_2).f0.f2)) ∧ w'.cell? ⟨(ad341.add ((x12_2).toNat * 6)).block, (ad341.add ((x12_2).toNat * 6)).off + 3, none⟩ = some (.int .i64 ((rd_T48 l2 x12_2).f0.f3)) ∧ w'.cell? ⟨(ad341.add ((x12_2).toNat * 6)).block, (ad341.add ((x12_2).toNat * 6)).off + 4, none⟩ = some (.int .i64 ((rd_T48 l2 x12_2).f1.f0)) ∧ w'.cell? ⟨(ad341.add ((x12_2).toNat * 6)).block, (ad341.add ((x12_2).toNat * 6)).off + 5, none⟩ = some (.int .i64 ((rd_T48 l2 x12_2).f1.f1))) ∧ (Kd.R k48 48 w' w.heap.size (fun _ => True) u11 x11_2) ∧ (w'.heap[gb332]? = some (.cells #[.int .i64 a1_0, .int .i64 a1_1, .int .i64 a1_2] 29 (0, 0))) ∧ (w'.heap[gb333]? = some (.cells #[.int .i64 a3_0, .int .i64 a3_1] 38 (0, 0))) ∧ (Below w.heap.size w w')) ?_ ?_
              rotate_left
              ·intro hJ12
               refine join_ (σ := Nat) 5 #[true, true, true, true, true, true, true, true, true, true, true, true, false, false, false, false, true, false] (fun s_ => [(13, .pointer (some ⟨s_, 0, none⟩))]) (fun s_ w' => (w'.cell? ⟨gb333, 0, none⟩ = some (.int .i64 a3_0) ∧ w'.cell? ⟨gb333, 1, none⟩ = some (.int .i64 a3_1) ∧ w'.cell? (ad341.add ((x12_2).toNat * 6)) = some (.int .i64 ((rd_T48 l2 x12_2).f0.f0)) ∧ w'.cell? ⟨(ad341.add ((x12_2).toNat * 6)).block, (ad341.add ((x12_2).toNat * 6)).off + 1, none⟩ = some (.int .i64 ((rd_T48 l2 x12_2).f0.f1)) ∧ w'.cell? ⟨(ad341.add ((x12_2).toNat * 6)).block, (ad341.add ((x12_2).toNat * 6)).off + 2, none⟩ = some (.int .i64 ((rd_T48 l2 x12_2).f0.f2)) ∧ w'.cell? ⟨(ad341.add ((x12_2).toNat * 6)).block, (ad341.add ((x12_2).toNat * 6)).off + 3, none⟩ = some (.int .i64 ((rd_T48 l2 x12_2).f0.f3)) ∧ w'.cell? ⟨(ad341.add ((x12_2).toNat * 6)).block, (ad341.add ((x12_2).toNat * 6)).off + 4, none⟩ = some (.int .i64 ((rd_T48 l2 x12_2).f1.f0)) ∧ w'.cell? ⟨(ad341.add ((x12_2).toNat * 6)).block, (ad341.add ((x12_2).toNat * 6)).off + 5, none⟩ = some (.int .i64 ((rd_T48 l2 x12_2).f1.f1)) ∧ w'.cell? (ad341.add ((x12_2).toNat * 6)) = some (.int .i64 ((rd_T48 l2 x12_2).f0.f0)) ∧ w'.cell? ⟨(ad341.add ((x12_2).toNat * 6)).block, (ad341.add ((x12_2).toNat * 6)).off + 1, none⟩ = some (.int .i64 ((rd_T48 l2 x12_2).f0.f1)) ∧ w'.cell? ⟨(ad341.add ((x12_2).toNat * 6)).block, (ad341.add ((x12_2).toNat * 6)).off + 2, none⟩ = some (.int .i64 ((rd_T48 l2 x12_2).f0.f2)) ∧ w'.cell? ⟨(ad341.add ((x12_2).toNat * 6)).block, (ad341.add ((x12_2).toNat * 6)).off + 3, none⟩ = some (.int .i64 ((rd_T48 l2 x12_2).f0.f3)) ∧ w'.cell? ⟨(ad341.add ((x12_2).toNat * 6)).block, (ad341.add ((x12_2).toNat * 6)).off + 4, none⟩ = some (.int .i64 ((rd_T48 l2 x12_2).f1.f0)) ∧ w'.cell? ⟨(ad341.add ((x12_2).toNat * 6)).block, (ad341.add ((x12_2).toNat * 6)).off + 5, none⟩ = some (.int .i64 ((rd_T48 l2 x12_2).f1.f1))) ∧ (Kd.R k48 48 w' w.heap.size (fun _ => True) u11 x11_2) ∧ (w'.heap[gb332]? = some (.cells #[.int .i64 a1_0, .int .i64 a1_1, .int .i64 a1_2] 29 (0, 0))) ∧ (w'.heap[gb333]? = some (.cells #[.int .i64 a3_0, .int .i64 a3_1] 38 (0, 0))) ∧ (w'.heap[s_]? = some (.cells #[.int .i64 0, .int .i64 0] 38 (0, 0))) ∧ (w.heap.size ≤ s_) ∧ (w.heap.size ≤ s_) ∧ (gb332 ≠ s_) ∧ (s_ ≠ gb332) ∧ (gb333 ≠ s_) ∧ (s_ ≠ gb333) ∧ (Below w.heap.size w w')) ?_ ?_
               rotate_left
               ·intro hJ16
                refine two_ (i := 12) (j := 16) (Ni := some 47) (Nj := some 13) (bT 18 13) (bs 18 69631) rfl rfl rfl rfl (two_of HT_.out (by kernel_rfl)) (by decide) (by decide) (fun K hK => ?_) (fun K hK => ?_)
                ·skip
                 refine gs Tryz.func43 #[.agg #[.int .i64 ((rd_T48 l2 x12_2).f0.f0), .int .i64 ((rd_T48 l2 x12_2).f0.f1), .int .i64 ((rd_T48 l2 x12_2).f0.f2), .int .i64 ((rd_T48 l2 x12_2).f0.f3)], .agg #[.int .i64 a3_0, .int .i64 a3_1]] ?_
                 with_reducible refine (spec_l02Apply.calls _ _ _ _ _ _ _ _ _ A25.out).mono ?_
                 rintro e w32 ⟨rfl, hb⟩
                 refine ⟨_, rfl, ?_⟩
                 replace HO_11 := asd (Kd.R_below (kr HO_11) hb)
                 replace BK332 := bB BK332 hb
                 replace BK333 := bB BK333 hb
                 replace HB := bS2 HB GE332 GE333 hb
                 (try clear hb)
                 (try clear hb2)
                 (try clear hk)
                 (try clear hi)
                 refine hK.out _ _ (cb2 BK333 (cx6 HB hw341_0 hw341_1 hw341_2 hw341_3 hw341_4 hw341_5 (ex6 HB hw342_0 hw342_1 hw342_2 hw342_3 hw342_4 hw342_5))).out (fun hHeld => ?_)
                 clear hK K
                 refine norm_ (a' := ?_) ?_ ?_
                 rotate_left
                 ·show Act.put _ (some 47) _ = _
                  simp only [Act.put, sA, sB, sC, i64_w, i32_w]
                  rfl
                 exact norm_ (by first | (simp only [putAll, Act.put, sA, sB, sC]; done) | (simp only [putAll, Act.put, sA, sB, sC]; rfl)) (hJ12 () _ ⟨hHeld, (kr HO_11), (bkp BK332), (bkp BK333), (bbw2 HB GE332 GE333)⟩)
                ·skip
                 refine box_step ?hg (N := 13) ?hd (cs := #[.int .i64 0, .int .i64 0]) (t := 38) ?hr ?_; (case hd => rfl); (case hg => rfl); (case hr => first | (go_simp; done) | (go_simp; rfl))
                 intro gb351 hg w32 hbox hb
                 replace HO_11 := asd (Kd.R_below (kr HO_11) hb)
                 have BK351 := asd (hbox)
                 have GW351 := ngw2 hg HB GE332 GE333
                 have GE351 := ngw2 hg HB GE332 GE333
                 replace HB := bS2 HB GE332 GE333 hb
                 have NB332_351 := nlt hg BK332
                 have NB351_332 := nsy (nlt hg BK332)
                 replace BK332 := bB BK332 hb
                 have NB333_351 := nlt hg BK333
                 have NB351_333 := nsy (nlt hg BK333)
                 replace BK333 := bB BK333 hb
                 clear hb hbox hg
                 refine hK.out _ _ (cb2 BK333 (cx6 HB hw341_0 hw341_1 hw341_2 hw341_3 hw341_4 hw341_5 (ex6 HB hw342_0 hw342_1 hw342_2 hw342_3 hw342_4 hw342_5))).out (fun hHeld => ?_)
                 clear hK K
                 refine norm_ (a' := ?_) ?_ ?_
                 rotate_left
                 ·show Act.put _ (some 13) _ = _
                  simp only [Act.put, sA, sB, sC, i64_w, i32_w]
                  rfl
                 exact norm_ (by first | (simp only [putAll, Act.put, sA, sB, sC]; done) | (simp only [putAll, Act.put, sA, sB, sC]; rfl)) (hJ16 (gb351) _ ⟨hHeld, (kr HO_11), (bkp BK332), (bkp BK333), (bkp BK351), GW351.out, GE351.out, NB332_351.out, NB351_332.out, NB333_351.out, NB351_333.out, (bbw3 HB GE332 GE333 GE351)⟩)
               ·skip
                rintro gb351 w33 ⟨hS_, h0_, h1_, h2_, h3_, h4_, h5_, h6_, h7_, h8_, h9_, h10_⟩
                have n0_ : Aside0 (Kd.R k48 48 w33 w.heap.size (fun _ => True) u11 x11_2) := ⟨h0_⟩
                have n1_ : Aside0 (w33.heap[gb332]? = some (.cells #[.int .i64 a1_0, .int .i64 a1_1, .int .i64 a1_2] 29 (0, 0))) := ⟨h1_⟩
                have n2_ : Aside0 (w33.heap[gb333]? = some (.cells #[.int .i64 a3_0, .int .i64 a3_1] 38 (0, 0))) := ⟨h2_⟩
                have n3_ : Aside0 (w33.heap[gb351]? = some (.cells #[.int .i64 0, .int .i64 0] 38 (0, 0))) := ⟨h3_⟩
                have n4_ : Aside0 (w.heap.size ≤ gb351) := ⟨h4_⟩
                have n5_ : Aside0 (w.heap.size ≤ gb351) := ⟨h5_⟩
                have n6_ : Aside0 (gb332 ≠ gb351) := ⟨h6_⟩
                have n7_ : Aside0 (gb351 ≠ gb332) := ⟨h7_⟩
                have n8_ : Aside0 (gb333 ≠ gb351) := ⟨h8_⟩
                have n9_ : Aside0 (gb351 ≠ gb333) := ⟨h9_⟩
                have n10_ : Aside0 (Below w.heap.size w w33) := ⟨h10_⟩
                clear HO_11
                clear BK332
                clear BK333
                clear HB
                clear h0_ h1_ h2_ h3_ h4_ h5_ h6_ h7_ h8_ h9_ h10_
                have HO_11 := n0_
                have BK332 := n1_
                have BK333 := n2_
                have BK351 := n3_
                have GW351 := n4_
                have GE351 := n5_
                have NB332_351 := n6_
                have NB351_332 := n7_
                have NB333_351 := n8_
                have NB351_333 := n9_
                have HB := n10_
                clear n0_ n1_ n2_ n3_ n4_ n5_ n6_ n7_ n8_ n9_ n10_
                have hHeld : w33.cell? ⟨gb333, 0, none⟩ = some (.int .i64 a3_0) ∧ w33.cell? ⟨gb333, 1, none⟩ = some (.int .i64 a3_1) ∧ w33.cell? (ad341.add ((x12_2).toNat * 6)) = some (.int .i64 ((rd_T48 l2 x12_2).f0.f0)) ∧ w33.cell? ⟨(ad341.add ((x12_2).toNat * 6)).block, (ad341.add ((x12_2).toNat * 6)).off + 1, none⟩ = some (.int .i64 ((rd_T48 l2 x12_2).f0.f1)) ∧ w33.cell? ⟨(ad341.add ((x12_2).toNat * 6)).block, (ad341.add ((x12_2).toNat * 6)).off + 2, none⟩ = some (.int .i64 ((rd_T48 l2 x12_2).f0.f2)) ∧ w33.cell? ⟨(ad341.add ((x12_2).toNat * 6)).block, (ad341.add ((x12_2).toNat * 6)).off + 3, none⟩ = some (.int .i64 ((rd_T48 l2 x12_2).f0.f3)) ∧ w33.cell? ⟨(ad341.add ((x12_2).toNat * 6)).block, (ad341.add ((x12_2).toNat * 6)).off + 4, none⟩ = some (.int .i64 ((rd_T48 l2 x12_2).f1.f0)) ∧ w33.cell? ⟨(ad341.add ((x12_2).toNat * 6)).block, (ad341.add ((x12_2).toNat * 6)).off + 5, none⟩ = some (.int .i64 ((rd_T48 l2 x12_2).f1.f1)) ∧ w33.cell? (ad341.add ((x12_2).toNat * 6)) = some (.int .i64 ((rd_T48 l2 x12_2).f0.f0)) ∧ w33.cell? ⟨(ad341.add ((x12_2).toNat * 6)).block, (ad341.add ((x12_2).toNat * 6)).off + 1, none⟩ = some (.int .i64 ((rd_T48 l2 x12_2).f0.f1)) ∧ w33.cell? ⟨(ad341.add ((x12_2).toNat * 6)).block, (ad341.add ((x12_2).toNat * 6)).off + 2, none⟩ = some (.int .i64 ((rd_T48 l2 x12_2).f0.f2)) ∧ w33.cell? ⟨(ad341.add ((x12_2).toNat * 6)).block, (ad341.add ((x12_2).toNat * 6)).off + 3, none⟩ = some (.int .i64 ((rd_T48 l2 x12_2).f0.f3)) ∧ w33.cell? ⟨(ad341.add ((x12_2).toNat * 6)).block, (ad341.add ((x12_2).toNat * 6)).off + 4, none⟩ = some (.int .i64 ((rd_T48 l2 x12_2).f1.f0)) ∧ w33.cell? ⟨(ad341.add ((x12_2).toNat * 6)).block, (ad341.add ((x12_2).toNat * 6)).off + 5, none⟩ = some (.int .i64 ((rd_T48 l2 x12_2).f1.f1)) := hS_
                refine norm_ (a' := ?_) ?_ ?_
                rotate_left
                ·simp only [putAll, Act.put, sA, sB, sC]
                 rfl
                refine ro 12 (some 47) (bs 18 73727) HT_ (fun K hK => ?_)
                refine gs Tryz.func43 #[.agg #[.int .i64 ((rd_T48 l2 x12_2).f0.f0), .int .i64 ((rd_T48 l2 x12_2).f0.f1), .int .i64 ((rd_T48 l2 x12_2).f0.f2), .int .i64 ((rd_T48 l2 x12_2).f0.f3)], .agg #[.int .i64 a3_0, .int .i64 a3_1]] ?_
                with_reducible refine (spec_l02Apply.calls _ _ _ _ _ _ _ _ _ A25.out).mono ?_
                rintro e w34 ⟨rfl, hb⟩
                refine ⟨_, rfl, ?_⟩
                replace HO_11 := asd (Kd.R_below (kr HO_11) hb)
                replace BK332 := bB BK332 hb
                replace BK333 := bB BK333 hb
                replace BK351 := bB BK351 hb
                replace HB := bS3 HB GE332 GE333 GE351 hb
                (try clear hb)
                (try clear hb2)
                (try clear hk)
                (try clear hi)
                refine hK.out _ _ (cb2 BK333 (cx6 HB hw341_0 hw341_1 hw341_2 hw341_3 hw341_4 hw341_5 (ex6 HB hw342_0 hw342_1 hw342_2 hw342_3 hw342_4 hw342_5))).out (fun hHeld => ?_)
                clear hK K
                refine norm_ (a' := ?_) ?_ ?_
                rotate_left
                ·show Act.put _ (some 47) _ = _
                 simp only [Act.put, sA, sB, sC, i64_w, i32_w]
                 rfl
                exact norm_ (by first | (simp only [putAll, Act.put, sA, sB, sC]; done) | (simp only [putAll, Act.put, sA, sB, sC]; rfl)) (hJ12_16 (gb351) _ ⟨hHeld, (kr HO_11), (bkp BK332), (bkp BK333), (bkp BK351), GW351.out, GE351.out, NB332_351.out, NB351_332.out, NB333_351.out, NB351_333.out, (bbw3 HB GE332 GE333 GE351)⟩)
              ·skip
               rintro _ w33 ⟨hS_, h0_, h1_, h2_, h3_⟩
               have n0_ : Aside0 (Kd.R k48 48 w33 w.heap.size (fun _ => True) u11 x11_2) := ⟨h0_⟩
               have n1_ : Aside0 (w33.heap[gb332]? = some (.cells #[.int .i64 a1_0, .int .i64 a1_1, .int .i64 a1_2] 29 (0, 0))) := ⟨h1_⟩
               have n2_ : Aside0 (w33.heap[gb333]? = some (.cells #[.int .i64 a3_0, .int .i64 a3_1] 38 (0, 0))) := ⟨h2_⟩
               have n3_ : Aside0 (Below w.heap.size w w33) := ⟨h3_⟩
               clear HO_11
               clear BK332
               clear BK333
               clear HB
               clear h0_ h1_ h2_ h3_
               have HO_11 := n0_
               have BK332 := n1_
               have BK333 := n2_
               have HB := n3_
               clear n0_ n1_ n2_ n3_
               have hHeld : w33.cell? ⟨gb333, 0, none⟩ = some (.int .i64 a3_0) ∧ w33.cell? ⟨gb333, 1, none⟩ = some (.int .i64 a3_1) ∧ w33.cell? (ad341.add ((x12_2).toNat * 6)) = some (.int .i64 ((rd_T48 l2 x12_2).f0.f0)) ∧ w33.cell? ⟨(ad341.add ((x12_2).toNat * 6)).block, (ad341.add ((x12_2).toNat * 6)).off + 1, none⟩ = some (.int .i64 ((rd_T48 l2 x12_2).f0.f1)) ∧ w33.cell? ⟨(ad341.add ((x12_2).toNat * 6)).block, (ad341.add ((x12_2).toNat * 6)).off + 2, none⟩ = some (.int .i64 ((rd_T48 l2 x12_2).f0.f2)) ∧ w33.cell? ⟨(ad341.add ((x12_2).toNat * 6)).block, (ad341.add ((x12_2).toNat * 6)).off + 3, none⟩ = some (.int .i64 ((rd_T48 l2 x12_2).f0.f3)) ∧ w33.cell? ⟨(ad341.add ((x12_2).toNat * 6)).block, (ad341.add ((x12_2).toNat * 6)).off + 4, none⟩ = some (.int .i64 ((rd_T48 l2 x12_2).f1.f0)) ∧ w33.cell? ⟨(ad341.add ((x12_2).toNat * 6)).block, (ad341.add ((x12_2).toNat * 6)).off + 5, none⟩ = some (.int .i64 ((rd_T48 l2 x12_2).f1.f1)) ∧ w33.cell? (ad341.add ((x12_2).toNat * 6)) = some (.int .i64 ((rd_T48 l2 x12_2).f0.f0)) ∧ w33.cell? ⟨(ad341.add ((x12_2).toNat * 6)).block, (ad341.add ((x12_2).toNat * 6)).off + 1, none⟩ = some (.int .i64 ((rd_T48 l2 x12_2).f0.f1)) ∧ w33.cell? ⟨(ad341.add ((x12_2).toNat * 6)).block, (ad341.add ((x12_2).toNat * 6)).off + 2, none⟩ = some (.int .i64 ((rd_T48 l2 x12_2).f0.f2)) ∧ w33.cell? ⟨(ad341.add ((x12_2).toNat * 6)).block, (ad341.add ((x12_2).toNat * 6)).off + 3, none⟩ = some (.int .i64 ((rd_T48 l2 x12_2).f0.f3)) ∧ w33.cell? ⟨(ad341.add ((x12_2).toNat * 6)).block, (ad341.add ((x12_2).toNat * 6)).off + 4, none⟩ = some (.int .i64 ((rd_T48 l2 x12_2).f1.f0)) ∧ w33.cell? ⟨(ad341.add ((x12_2).toNat * 6)).block, (ad341.add ((x12_2).toNat * 6)).off + 5, none⟩ = some (.int .i64 ((rd_T48 l2 x12_2).f1.f1)) := hS_
               refine norm_ (a' := ?_) ?_ ?_
               rotate_left
               ·simp only [putAll, Act.put, sA, sB, sC]
                rfl
               refine two_ (i := 13) (j := 16) (Ni := some 48) (Nj := some 13) (bT 18 14) (bs 18 73727) rfl rfl rfl rfl (two_of HT_.out (by kernel_rfl)) (by decide) (by decide) (fun K hK => ?_) (fun K hK => ?_)
               ·skip
                refine gs Tryz.func42 #[.agg #[.int .i64 t343, .int .i64 t344], .int .i64 (-1)] ?_
                with_reducible refine (spec_l01Scale.calls _ _ _ _ _ _ A26.out).mono ?_
                rintro e w34 ⟨rfl, hb⟩
                refine ⟨_, rfl, ?_⟩
                replace HO_11 := asd (Kd.R_below (kr HO_11) hb)
                replace BK332 := bB BK332 hb
                replace BK333 := bB BK333 hb
                replace HB := bS2 HB GE332 GE333 hb
                (try clear hb)
                (try clear hb2)
                (try clear hk)
                (try clear hi)
                refine hK.out _ _ (cb2 BK333 (cx6 HB hw341_0 hw341_1 hw341_2 hw341_3 hw341_4 hw341_5 (ex6 HB hw342_0 hw342_1 hw342_2 hw342_3 hw342_4 hw342_5))).out (fun hHeld => ?_)
                clear hK K
                refine norm_ (a' := ?_) ?_ ?_
                rotate_left
                ·show Act.put _ (some 48) _ = _
                 simp only [Act.put, sA, sB, sC, i64_w, i32_w]
                 rfl
                exact norm_ (by first | (simp only [putAll, Act.put, sA, sB, sC]; done) | (simp only [putAll, Act.put, sA, sB, sC]; rfl)) (hJ12_13 () _ ⟨hHeld, (kr HO_11), (bkp BK332), (bkp BK333), (bbw2 HB GE332 GE333)⟩)
               ·skip
                refine box_step ?hg (N := 13) ?hd (cs := #[.int .i64 0, .int .i64 0]) (t := 38) ?hr ?_; (case hd => rfl); (case hg => rfl); (case hr => first | (go_simp; done) | (go_simp; rfl))
                intro gb351 hg w34 hbox hb
                replace HO_11 := asd (Kd.R_below (kr HO_11) hb)
                have BK351 := asd (hbox)
                have GW351 := ngw2 hg HB GE332 GE333
                have GE351 := ngw2 hg HB GE332 GE333
                replace HB := bS2 HB GE332 GE333 hb
                have NB332_351 := nlt hg BK332
                have NB351_332 := nsy (nlt hg BK332)
                replace BK332 := bB BK332 hb
                have NB333_351 := nlt hg BK333
                have NB351_333 := nsy (nlt hg BK333)
                replace BK333 := bB BK333 hb
                clear hb hbox hg
                refine hK.out _ _ (cb2 BK333 (cx6 HB hw341_0 hw341_1 hw341_2 hw341_3 hw341_4 hw341_5 (ex6 HB hw342_0 hw342_1 hw342_2 hw342_3 hw342_4 hw342_5))).out (fun hHeld => ?_)
                clear hK K
                refine norm_ (a' := ?_) ?_ ?_
                rotate_left
                ·show Act.put _ (some 13) _ = _
                 simp only [Act.put, sA, sB, sC, i64_w, i32_w]
                 rfl
                exact norm_ (by first | (simp only [putAll, Act.put, sA, sB, sC]; done) | (simp only [putAll, Act.put, sA, sB, sC]; rfl)) (hJ12_16 (gb351) _ ⟨hHeld, (kr HO_11), (bkp BK332), (bkp BK333), (bkp BK351), GW351.out, GE351.out, NB332_351.out, NB351_332.out, NB333_351.out, NB351_333.out, (bbw3 HB GE332 GE333 GE351)⟩)
             ·skip
              rintro gb351 w34 ⟨hS_, h0_, h1_, h2_, h3_, h4_, h5_, h6_, h7_, h8_, h9_, h10_⟩
              have n0_ : Aside0 (Kd.R k48 48 w34 w.heap.size (fun _ => True) u11 x11_2) := ⟨h0_⟩
              have n1_ : Aside0 (w34.heap[gb332]? = some (.cells #[.int .i64 a1_0, .int .i64 a1_1, .int .i64 a1_2] 29 (0, 0))) := ⟨h1_⟩
              have n2_ : Aside0 (w34.heap[gb333]? = some (.cells #[.int .i64 a3_0, .int .i64 a3_1] 38 (0, 0))) := ⟨h2_⟩
              have n3_ : Aside0 (w34.heap[gb351]? = some (.cells #[.int .i64 0, .int .i64 0] 38 (0, 0))) := ⟨h3_⟩
              have n4_ : Aside0 (w.heap.size ≤ gb351) := ⟨h4_⟩
              have n5_ : Aside0 (w.heap.size ≤ gb351) := ⟨h5_⟩
              have n6_ : Aside0 (gb332 ≠ gb351) := ⟨h6_⟩
              have n7_ : Aside0 (gb351 ≠ gb332) := ⟨h7_⟩
              have n8_ : Aside0 (gb333 ≠ gb351) := ⟨h8_⟩
              have n9_ : Aside0 (gb351 ≠ gb333) := ⟨h9_⟩
              have n10_ : Aside0 (Below w.heap.size w w34) := ⟨h10_⟩
              clear HO_11
              clear BK332
              clear BK333
              clear HB
              clear h0_ h1_ h2_ h3_ h4_ h5_ h6_ h7_ h8_ h9_ h10_
              have HO_11 := n0_
              have BK332 := n1_
              have BK333 := n2_
              have BK351 := n3_
              have GW351 := n4_
              have GE351 := n5_
              have NB332_351 := n6_
              have NB351_332 := n7_
              have NB333_351 := n8_
              have NB351_333 := n9_
              have HB := n10_
              clear n0_ n1_ n2_ n3_ n4_ n5_ n6_ n7_ n8_ n9_ n10_
              have hHeld : w34.cell? ⟨gb333, 0, none⟩ = some (.int .i64 a3_0) ∧ w34.cell? ⟨gb333, 1, none⟩ = some (.int .i64 a3_1) ∧ w34.cell? (ad341.add ((x12_2).toNat * 6)) = some (.int .i64 ((rd_T48 l2 x12_2).f0.f0)) ∧ w34.cell? ⟨(ad341.add ((x12_2).toNat * 6)).block, (ad341.add ((x12_2).toNat * 6)).off + 1, none⟩ = some (.int .i64 ((rd_T48 l2 x12_2).f0.f1)) ∧ w34.cell? ⟨(ad341.add ((x12_2).toNat * 6)).block, (ad341.add ((x12_2).toNat * 6)).off + 2, none⟩ = some (.int .i64 ((rd_T48 l2 x12_2).f0.f2)) ∧ w34.cell? ⟨(ad341.add ((x12_2).toNat * 6)).block, (ad341.add ((x12_2).toNat * 6)).off + 3, none⟩ = some (.int .i64 ((rd_T48 l2 x12_2).f0.f3)) ∧ w34.cell? ⟨(ad341.add ((x12_2).toNat * 6)).block, (ad341.add ((x12_2).toNat * 6)).off + 4, none⟩ = some (.int .i64 ((rd_T48 l2 x12_2).f1.f0)) ∧ w34.cell? ⟨(ad341.add ((x12_2).toNat * 6)).block, (ad341.add ((x12_2).toNat * 6)).off + 5, none⟩ = some (.int .i64 ((rd_T48 l2 x12_2).f1.f1)) ∧ w34.cell? (ad341.add ((x12_2).toNat * 6)) = some (.int .i64 ((rd_T48 l2 x12_2).f0.f0)) ∧ w34.cell? ⟨(ad341.add ((x12_2).toNat * 6)).block, (ad341.add ((x12_2).toNat * 6)).off + 1, none⟩ = some (.int .i64 ((rd_T48 l2 x12_2).f0.f1)) ∧ w34.cell? ⟨(ad341.add ((x12_2).toNat * 6)).block, (ad341.add ((x12_2).toNat * 6)).off + 2, none⟩ = some (.int .i64 ((rd_T48 l2 x12_2).f0.f2)) ∧ w34.cell? ⟨(ad341.add ((x12_2).toNat * 6)).block, (ad341.add ((x12_2).toNat * 6)).off + 3, none⟩ = some (.int .i64 ((rd_T48 l2 x12_2).f0.f3)) ∧ w34.cell? ⟨(ad341.add ((x12_2).toNat * 6)).block, (ad341.add ((x12_2).toNat * 6)).off + 4, none⟩ = some (.int .i64 ((rd_T48 l2 x12_2).f1.f0)) ∧ w34.cell? ⟨(ad341.add ((x12_2).toNat * 6)).block, (ad341.add ((x12_2).toNat * 6)).off + 5, none⟩ = some (.int .i64 ((rd_T48 l2 x12_2).f1.f1)) := hS_
              refine norm_ (a' := ?_) ?_ ?_
              rotate_left
              ·simp only [putAll, Act.put, sA, sB, sC]
               rfl
              refine ro 13 (some 48) (bs 18 81919) HT_ (fun K hK => ?_)
              refine gs Tryz.func42 #[.agg #[.int .i64 t343, .int .i64 t344], .int .i64 (-1)] ?_
              with_reducible refine (spec_l01Scale.calls _ _ _ _ _ _ A26.out).mono ?_
              rintro e w35 ⟨rfl, hb⟩
              refine ⟨_, rfl, ?_⟩
              replace HO_11 := asd (Kd.R_below (kr HO_11) hb)
              replace BK332 := bB BK332 hb
              replace BK333 := bB BK333 hb
              replace BK351 := bB BK351 hb
              replace HB := bS3 HB GE332 GE333 GE351 hb
              (try clear hb)
              (try clear hb2)
              (try clear hk)
              (try clear hi)
              refine hK.out _ _ (cb2 BK333 (cx6 HB hw341_0 hw341_1 hw341_2 hw341_3 hw341_4 hw341_5 (ex6 HB hw342_0 hw342_1 hw342_2 hw342_3 hw342_4 hw342_5))).out (fun hHeld => ?_)
              clear hK K
              refine norm_ (a' := ?_) ?_ ?_
              rotate_left
              ·show Act.put _ (some 48) _ = _
               simp only [Act.put, sA, sB, sC, i64_w, i32_w]
               rfl
              exact norm_ (by first | (simp only [putAll, Act.put, sA, sB, sC]; done) | (simp only [putAll, Act.put, sA, sB, sC]; rfl)) (hJ12_13_16 (gb351) _ ⟨hHeld, (kr HO_11), (bkp BK332), (bkp BK333), (bkp BK351), GW351.out, GE351.out, NB332_351.out, NB351_332.out, NB333_351.out, NB351_333.out, (bbw3 HB GE332 GE333 GE351)⟩)
            ·skip
             rintro _ w34 ⟨hS_, h0_, h1_, h2_, h3_⟩
             have n0_ : Aside0 (Kd.R k48 48 w34 w.heap.size (fun _ => True) u11 x11_2) := ⟨h0_⟩
             have n1_ : Aside0 (w34.heap[gb332]? = some (.cells #[.int .i64 a1_0, .int .i64 a1_1, .int .i64 a1_2] 29 (0, 0))) := ⟨h1_⟩
             have n2_ : Aside0 (w34.heap[gb333]? = some (.cells #[.int .i64 a3_0, .int .i64 a3_1] 38 (0, 0))) := ⟨h2_⟩
             have n3_ : Aside0 (Below w.heap.size w w34) := ⟨h3_⟩
             clear HO_11
             clear BK332
             clear BK333
             clear HB
             clear h0_ h1_ h2_ h3_
             have HO_11 := n0_
             have BK332 := n1_
             have BK333 := n2_
             have HB := n3_
             clear n0_ n1_ n2_ n3_
             have hHeld : w34.cell? ⟨gb333, 0, none⟩ = some (.int .i64 a3_0) ∧ w34.cell? ⟨gb333, 1, none⟩ = some (.int .i64 a3_1) ∧ w34.cell? (ad341.add ((x12_2).toNat * 6)) = some (.int .i64 ((rd_T48 l2 x12_2).f0.f0)) ∧ w34.cell? ⟨(ad341.add ((x12_2).toNat * 6)).block, (ad341.add ((x12_2).toNat * 6)).off + 1, none⟩ = some (.int .i64 ((rd_T48 l2 x12_2).f0.f1)) ∧ w34.cell? ⟨(ad341.add ((x12_2).toNat * 6)).block, (ad341.add ((x12_2).toNat * 6)).off + 2, none⟩ = some (.int .i64 ((rd_T48 l2 x12_2).f0.f2)) ∧ w34.cell? ⟨(ad341.add ((x12_2).toNat * 6)).block, (ad341.add ((x12_2).toNat * 6)).off + 3, none⟩ = some (.int .i64 ((rd_T48 l2 x12_2).f0.f3)) ∧ w34.cell? ⟨(ad341.add ((x12_2).toNat * 6)).block, (ad341.add ((x12_2).toNat * 6)).off + 4, none⟩ = some (.int .i64 ((rd_T48 l2 x12_2).f1.f0)) ∧ w34.cell? ⟨(ad341.add ((x12_2).toNat * 6)).block, (ad341.add ((x12_2).toNat * 6)).off + 5, none⟩ = some (.int .i64 ((rd_T48 l2 x12_2).f1.f1)) ∧ w34.cell? (ad341.add ((x12_2).toNat * 6)) = some (.int .i64 ((rd_T48 l2 x12_2).f0.f0)) ∧ w34.cell? ⟨(ad341.add ((x12_2).toNat * 6)).block, (ad341.add ((x12_2).toNat * 6)).off + 1, none⟩ = some (.int .i64 ((rd_T48 l2 x12_2).f0.f1)) ∧ w34.cell? ⟨(ad341.add ((x12_2).toNat * 6)).block, (ad341.add ((x12_2).toNat * 6)).off + 2, none⟩ = some (.int .i64 ((rd_T48 l2 x12_2).f0.f2)) ∧ w34.cell? ⟨(ad341.add ((x12_2).toNat * 6)).block, (ad341.add ((x12_2).toNat * 6)).off + 3, none⟩ = some (.int .i64 ((rd_T48 l2 x12_2).f0.f3)) ∧ w34.cell? ⟨(ad341.add ((x12_2).toNat * 6)).block, (ad341.add ((x12_2).toNat * 6)).off + 4, none⟩ = some (.int .i64 ((rd_T48 l2 x12_2).f1.f0)) ∧ w34.cell? ⟨(ad341.add ((x12_2).toNat * 6)).block, (ad341.add ((x12_2).toNat * 6)).off + 5, none⟩ = some (.int .i64 ((rd_T48 l2 x12_2).f1.f1)) := hS_
             refine norm_ (a' := ?_) ?_ ?_
             rotate_left
             ·simp only [putAll, Act.put, sA, sB, sC]
              rfl
             refine two_ (i := 14) (j := 16) (Ni := some 49) (Nj := some 13) (bT 18 15) (bs 18 81919) rfl rfl rfl rfl (two_of HT_.out (by kernel_rfl)) (by decide) (by decide) (fun K hK => ?_) (fun K hK => ?_)
             ·skip
              refine gs Tryz.func41 #[.agg #[.int .i64 a3_0, .int .i64 a3_1], .agg #[.int .i64 t345, .int .i64 t346]] ?_
              with_reducible refine (spec_l01Add.calls _ _ _ _ _ _ _ A27.out).mono ?_
              rintro e w35 ⟨rfl, hb⟩
              refine ⟨_, rfl, ?_⟩
              replace HO_11 := asd (Kd.R_below (kr HO_11) hb)
              replace BK332 := bB BK332 hb
              replace BK333 := bB BK333 hb
              replace HB := bS2 HB GE332 GE333 hb
              (try clear hb)
              (try clear hb2)
              (try clear hk)
              (try clear hi)
              refine hK.out _ _ (cb2 BK333 (cx6 HB hw341_0 hw341_1 hw341_2 hw341_3 hw341_4 hw341_5 (ex6 HB hw342_0 hw342_1 hw342_2 hw342_3 hw342_4 hw342_5))).out (fun hHeld => ?_)
              clear hK K
              refine norm_ (a' := ?_) ?_ ?_
              rotate_left
              ·show Act.put _ (some 49) _ = _
               simp only [Act.put, sA, sB, sC, i64_w, i32_w]
               rfl
              exact norm_ (by first | (simp only [putAll, Act.put, sA, sB, sC]; done) | (simp only [putAll, Act.put, sA, sB, sC]; rfl)) (hJ12_13_14 () _ ⟨hHeld, (kr HO_11), (bkp BK332), (bkp BK333), (bbw2 HB GE332 GE333)⟩)
             ·skip
              refine box_step ?hg (N := 13) ?hd (cs := #[.int .i64 0, .int .i64 0]) (t := 38) ?hr ?_; (case hd => rfl); (case hg => rfl); (case hr => first | (go_simp; done) | (go_simp; rfl))
              intro gb351 hg w35 hbox hb
              replace HO_11 := asd (Kd.R_below (kr HO_11) hb)
              have BK351 := asd (hbox)
              have GW351 := ngw2 hg HB GE332 GE333
              have GE351 := ngw2 hg HB GE332 GE333
              replace HB := bS2 HB GE332 GE333 hb
              have NB332_351 := nlt hg BK332
              have NB351_332 := nsy (nlt hg BK332)
              replace BK332 := bB BK332 hb
              have NB333_351 := nlt hg BK333
              have NB351_333 := nsy (nlt hg BK333)
              replace BK333 := bB BK333 hb
              clear hb hbox hg
              refine hK.out _ _ (cb2 BK333 (cx6 HB hw341_0 hw341_1 hw341_2 hw341_3 hw341_4 hw341_5 (ex6 HB hw342_0 hw342_1 hw342_2 hw342_3 hw342_4 hw342_5))).out (fun hHeld => ?_)
              clear hK K
              refine norm_ (a' := ?_) ?_ ?_
              rotate_left
              ·show Act.put _ (some 13) _ = _
               simp only [Act.put, sA, sB, sC, i64_w, i32_w]
               rfl
              exact norm_ (by first | (simp only [putAll, Act.put, sA, sB, sC]; done) | (simp only [putAll, Act.put, sA, sB, sC]; rfl)) (hJ12_13_16 (gb351) _ ⟨hHeld, (kr HO_11), (bkp BK332), (bkp BK333), (bkp BK351), GW351.out, GE351.out, NB332_351.out, NB351_332.out, NB333_351.out, NB351_333.out, (bbw3 HB GE332 GE333 GE351)⟩)
           ·skip
            rintro gb351 w35 ⟨hS_, h0_, h1_, h2_, h3_, h4_, h5_, h6_, h7_, h8_, h9_, h10_⟩
            have n0_ : Aside0 (Kd.R k48 48 w35 w.heap.size (fun _ => True) u11 x11_2) := ⟨h0_⟩
            have n1_ : Aside0 (w35.heap[gb332]? = some (.cells #[.int .i64 a1_0, .int .i64 a1_1, .int .i64 a1_2] 29 (0, 0))) := ⟨h1_⟩
            have n2_ : Aside0 (w35.heap[gb333]? = some (.cells #[.int .i64 a3_0, .int .i64 a3_1] 38 (0, 0))) := ⟨h2_⟩
            have n3_ : Aside0 (w35.heap[gb351]? = some (.cells #[.int .i64 0, .int .i64 0] 38 (0, 0))) := ⟨h3_⟩
            have n4_ : Aside0 (w.heap.size ≤ gb351) := ⟨h4_⟩
            have n5_ : Aside0 (w.heap.size ≤ gb351) := ⟨h5_⟩
            have n6_ : Aside0 (gb332 ≠ gb351) := ⟨h6_⟩
            have n7_ : Aside0 (gb351 ≠ gb332) := ⟨h7_⟩
            have n8_ : Aside0 (gb333 ≠ gb351) := ⟨h8_⟩
            have n9_ : Aside0 (gb351 ≠ gb333) := ⟨h9_⟩
            have n10_ : Aside0 (Below w.heap.size w w35) := ⟨h10_⟩
            clear HO_11
            clear BK332
            clear BK333
            clear HB
            clear h0_ h1_ h2_ h3_ h4_ h5_ h6_ h7_ h8_ h9_ h10_
            have HO_11 := n0_
            have BK332 := n1_
            have BK333 := n2_
            have BK351 := n3_
            have GW351 := n4_
            have GE351 := n5_
            have NB332_351 := n6_
            have NB351_332 := n7_
            have NB333_351 := n8_
            have NB351_333 := n9_
            have HB := n10_
            clear n0_ n1_ n2_ n3_ n4_ n5_ n6_ n7_ n8_ n9_ n10_
            have hHeld : w35.cell? ⟨gb333, 0, none⟩ = some (.int .i64 a3_0) ∧ w35.cell? ⟨gb333, 1, none⟩ = some (.int .i64 a3_1) ∧ w35.cell? (ad341.add ((x12_2).toNat * 6)) = some (.int .i64 ((rd_T48 l2 x12_2).f0.f0)) ∧ w35.cell? ⟨(ad341.add ((x12_2).toNat * 6)).block, (ad341.add ((x12_2).toNat * 6)).off + 1, none⟩ = some (.int .i64 ((rd_T48 l2 x12_2).f0.f1)) ∧ w35.cell? ⟨(ad341.add ((x12_2).toNat * 6)).block, (ad341.add ((x12_2).toNat * 6)).off + 2, none⟩ = some (.int .i64 ((rd_T48 l2 x12_2).f0.f2)) ∧ w35.cell? ⟨(ad341.add ((x12_2).toNat * 6)).block, (ad341.add ((x12_2).toNat * 6)).off + 3, none⟩ = some (.int .i64 ((rd_T48 l2 x12_2).f0.f3)) ∧ w35.cell? ⟨(ad341.add ((x12_2).toNat * 6)).block, (ad341.add ((x12_2).toNat * 6)).off + 4, none⟩ = some (.int .i64 ((rd_T48 l2 x12_2).f1.f0)) ∧ w35.cell? ⟨(ad341.add ((x12_2).toNat * 6)).block, (ad341.add ((x12_2).toNat * 6)).off + 5, none⟩ = some (.int .i64 ((rd_T48 l2 x12_2).f1.f1)) ∧ w35.cell? (ad341.add ((x12_2).toNat * 6)) = some (.int .i64 ((rd_T48 l2 x12_2).f0.f0)) ∧ w35.cell? ⟨(ad341.add ((x12_2).toNat * 6)).block, (ad341.add ((x12_2).toNat * 6)).off + 1, none⟩ = some (.int .i64 ((rd_T48 l2 x12_2).f0.f1)) ∧ w35.cell? ⟨(ad341.add ((x12_2).toNat * 6)).block, (ad341.add ((x12_2).toNat * 6)).off + 2, none⟩ = some (.int .i64 ((rd_T48 l2 x12_2).f0.f2)) ∧ w35.cell? ⟨(ad341.add ((x12_2).toNat * 6)).block, (ad341.add ((x12_2).toNat * 6)).off + 3, none⟩ = some (.int .i64 ((rd_T48 l2 x12_2).f0.f3)) ∧ w35.cell? ⟨(ad341.add ((x12_2).toNat * 6)).block, (ad341.add ((x12_2).toNat * 6)).off + 4, none⟩ = some (.int .i64 ((rd_T48 l2 x12_2).f1.f0)) ∧ w35.cell? ⟨(ad341.add ((x12_2).toNat * 6)).block, (ad341.add ((x12_2).toNat * 6)).off + 5, none⟩ = some (.int .i64 ((rd_T48 l2 x12_2).f1.f1)) := hS_
            refine norm_ (a' := ?_) ?_ ?_
            rotate_left
            ·simp only [putAll, Act.put, sA, sB, sC]
             rfl
            refine ro 14 (some 49) (bs 18 98303) HT_ (fun K hK => ?_)
            refine gs Tryz.func41 #[.agg #[.int .i64 a3_0, .int .i64 a3_1], .agg #[.int .i64 t345, .int .i64 t346]] ?_
            with_reducible refine (spec_l01Add.calls _ _ _ _ _ _ _ A27.out).mono ?_
            rintro e w36 ⟨rfl, hb⟩
            refine ⟨_, rfl, ?_⟩
            replace HO_11 := asd (Kd.R_below (kr HO_11) hb)
            replace BK332 := bB BK332 hb
            replace BK333 := bB BK333 hb
            replace BK351 := bB BK351 hb
            replace HB := bS3 HB GE332 GE333 GE351 hb
            (try clear hb)
            (try clear hb2)
            (try clear hk)
            (try clear hi)
            refine hK.out _ _ (cb2 BK333 (cx6 HB hw341_0 hw341_1 hw341_2 hw341_3 hw341_4 hw341_5 (ex6 HB hw342_0 hw342_1 hw342_2 hw342_3 hw342_4 hw342_5))).out (fun hHeld => ?_)
            clear hK K
            refine norm_ (a' := ?_) ?_ ?_
            rotate_left
            ·show Act.put _ (some 49) _ = _
             simp only [Act.put, sA, sB, sC, i64_w, i32_w]
             rfl
            exact norm_ (by first | (simp only [putAll, Act.put, sA, sB, sC]; done) | (simp only [putAll, Act.put, sA, sB, sC]; rfl)) (hJ12_13_14_16 (gb351) _ ⟨hHeld, (kr HO_11), (bkp BK332), (bkp BK333), (bkp BK351), GW351.out, GE351.out, NB332_351.out, NB351_332.out, NB333_351.out, NB351_333.out, (bbw3 HB GE332 GE333 GE351)⟩)
          ·skip
           rintro _ w35 ⟨hS_, h0_, h1_, h2_, h3_⟩
           have n0_ : Aside0 (Kd.R k48 48 w35 w.heap.size (fun _ => True) u11 x11_2) := ⟨h0_⟩
           have n1_ : Aside0 (w35.heap[gb332]? = some (.cells #[.int .i64 a1_0, .int .i64 a1_1, .int .i64 a1_2] 29 (0, 0))) := ⟨h1_⟩
           have n2_ : Aside0 (w35.heap[gb333]? = some (.cells #[.int .i64 a3_0, .int .i64 a3_1] 38 (0, 0))) := ⟨h2_⟩
           have n3_ : Aside0 (Below w.heap.size w w35) := ⟨h3_⟩
           clear HO_11
           clear BK332
           clear BK333
           clear HB
           clear h0_ h1_ h2_ h3_
           have HO_11 := n0_
           have BK332 := n1_
           have BK333 := n2_
           have HB := n3_
           clear n0_ n1_ n2_ n3_
           have hHeld : w35.cell? ⟨gb333, 0, none⟩ = some (.int .i64 a3_0) ∧ w35.cell? ⟨gb333, 1, none⟩ = some (.int .i64 a3_1) ∧ w35.cell? (ad341.add ((x12_2).toNat * 6)) = some (.int .i64 ((rd_T48 l2 x12_2).f0.f0)) ∧ w35.cell? ⟨(ad341.add ((x12_2).toNat * 6)).block, (ad341.add ((x12_2).toNat * 6)).off + 1, none⟩ = some (.int .i64 ((rd_T48 l2 x12_2).f0.f1)) ∧ w35.cell? ⟨(ad341.add ((x12_2).toNat * 6)).block, (ad341.add ((x12_2).toNat * 6)).off + 2, none⟩ = some (.int .i64 ((rd_T48 l2 x12_2).f0.f2)) ∧ w35.cell? ⟨(ad341.add ((x12_2).toNat * 6)).block, (ad341.add ((x12_2).toNat * 6)).off + 3, none⟩ = some (.int .i64 ((rd_T48 l2 x12_2).f0.f3)) ∧ w35.cell? ⟨(ad341.add ((x12_2).toNat * 6)).block, (ad341.add ((x12_2).toNat * 6)).off + 4, none⟩ = some (.int .i64 ((rd_T48 l2 x12_2).f1.f0)) ∧ w35.cell? ⟨(ad341.add ((x12_2).toNat * 6)).block, (ad341.add ((x12_2).toNat * 6)).off + 5, none⟩ = some (.int .i64 ((rd_T48 l2 x12_2).f1.f1)) ∧ w35.cell? (ad341.add ((x12_2).toNat * 6)) = some (.int .i64 ((rd_T48 l2 x12_2).f0.f0)) ∧ w35.cell? ⟨(ad341.add ((x12_2).toNat * 6)).block, (ad341.add ((x12_2).toNat * 6)).off + 1, none⟩ = some (.int .i64 ((rd_T48 l2 x12_2).f0.f1)) ∧ w35.cell? ⟨(ad341.add ((x12_2).toNat * 6)).block, (ad341.add ((x12_2).toNat * 6)).off + 2, none⟩ = some (.int .i64 ((rd_T48 l2 x12_2).f0.f2)) ∧ w35.cell? ⟨(ad341.add ((x12_2).toNat * 6)).block, (ad341.add ((x12_2).toNat * 6)).off + 3, none⟩ = some (.int .i64 ((rd_T48 l2 x12_2).f0.f3)) ∧ w35.cell? ⟨(ad341.add ((x12_2).toNat * 6)).block, (ad341.add ((x12_2).toNat * 6)).off + 4, none⟩ = some (.int .i64 ((rd_T48 l2 x12_2).f1.f0)) ∧ w35.cell? ⟨(ad341.add ((x12_2).toNat * 6)).block, (ad341.add ((x12_2).toNat * 6)).off + 5, none⟩ = some (.int .i64 ((rd_T48 l2 x12_2).f1.f1)) := hS_
           refine norm_ (a' := ?_) ?_ ?_
           rotate_left
           ·simp only [putAll, Act.put, sA, sB, sC]
            rfl
           refine two_ (i := 15) (j := 16) (Ni := some 50) (Nj := some 13) (bT 18 16) (bs 18 98303) rfl rfl rfl rfl (two_of HT_.out (by kernel_rfl)) (by decide) (by decide) (fun K hK => ?_) (fun K hK => ?_)
           ·skip
            refine gs Tryz.func41 #[.agg #[.int .i64 ((rd_T48 l2 x12_2).f1.f0), .int .i64 ((rd_T48 l2 x12_2).f1.f1)], .agg #[.int .i64 t347, .int .i64 t348]] ?_
            with_reducible refine (spec_l01Add.calls _ _ _ _ _ _ _ A28.out).mono ?_
            rintro e w36 ⟨rfl, hb⟩
            refine ⟨_, rfl, ?_⟩
            replace HO_11 := asd (Kd.R_below (kr HO_11) hb)
            replace BK332 := bB BK332 hb
            replace BK333 := bB BK333 hb
            replace HB := bS2 HB GE332 GE333 hb
            (try clear hb)
            (try clear hb2)
            (try clear hk)
            (try clear hi)
            refine hK.out _ _ (cb2 BK333 (cx6 HB hw341_0 hw341_1 hw341_2 hw341_3 hw341_4 hw341_5 (ex6 HB hw342_0 hw342_1 hw342_2 hw342_3 hw342_4 hw342_5))).out (fun hHeld => ?_)
            clear hK K
            refine norm_ (a' := ?_) ?_ ?_
            rotate_left
            ·show Act.put _ (some 50) _ = _
             simp only [Act.put, sA, sB, sC, i64_w, i32_w]
             rfl
            exact norm_ (by first | (simp only [putAll, Act.put, sA, sB, sC]; done) | (simp only [putAll, Act.put, sA, sB, sC]; rfl)) (hJ12_13_14_15 () _ ⟨hHeld, (kr HO_11), (bkp BK332), (bkp BK333), (bbw2 HB GE332 GE333)⟩)
           ·skip
            refine box_step ?hg (N := 13) ?hd (cs := #[.int .i64 0, .int .i64 0]) (t := 38) ?hr ?_; (case hd => rfl); (case hg => rfl); (case hr => first | (go_simp; done) | (go_simp; rfl))
            intro gb351 hg w36 hbox hb
            replace HO_11 := asd (Kd.R_below (kr HO_11) hb)
            have BK351 := asd (hbox)
            have GW351 := ngw2 hg HB GE332 GE333
            have GE351 := ngw2 hg HB GE332 GE333
            replace HB := bS2 HB GE332 GE333 hb
            have NB332_351 := nlt hg BK332
            have NB351_332 := nsy (nlt hg BK332)
            replace BK332 := bB BK332 hb
            have NB333_351 := nlt hg BK333
            have NB351_333 := nsy (nlt hg BK333)
            replace BK333 := bB BK333 hb
            clear hb hbox hg
            refine hK.out _ _ (cb2 BK333 (cx6 HB hw341_0 hw341_1 hw341_2 hw341_3 hw341_4 hw341_5 (ex6 HB hw342_0 hw342_1 hw342_2 hw342_3 hw342_4 hw342_5))).out (fun hHeld => ?_)
            clear hK K
            refine norm_ (a' := ?_) ?_ ?_
            rotate_left
            ·show Act.put _ (some 13) _ = _
             simp only [Act.put, sA, sB, sC, i64_w, i32_w]
             rfl
            exact norm_ (by first | (simp only [putAll, Act.put, sA, sB, sC]; done) | (simp only [putAll, Act.put, sA, sB, sC]; rfl)) (hJ12_13_14_16 (gb351) _ ⟨hHeld, (kr HO_11), (bkp BK332), (bkp BK333), (bkp BK351), GW351.out, GE351.out, NB332_351.out, NB351_332.out, NB333_351.out, NB351_333.out, (bbw3 HB GE332 GE333 GE351)⟩)
         ·skip
          rintro gb351 w36 ⟨hS_, h0_, h1_, h2_, h3_, h4_, h5_, h6_, h7_, h8_, h9_, h10_⟩
          have n0_ : Aside0 (Kd.R k48 48 w36 w.heap.size (fun _ => True) u11 x11_2) := ⟨h0_⟩
          have n1_ : Aside0 (w36.heap[gb332]? = some (.cells #[.int .i64 a1_0, .int .i64 a1_1, .int .i64 a1_2] 29 (0, 0))) := ⟨h1_⟩
          have n2_ : Aside0 (w36.heap[gb333]? = some (.cells #[.int .i64 a3_0, .int .i64 a3_1] 38 (0, 0))) := ⟨h2_⟩
          have n3_ : Aside0 (w36.heap[gb351]? = some (.cells #[.int .i64 0, .int .i64 0] 38 (0, 0))) := ⟨h3_⟩
          have n4_ : Aside0 (w.heap.size ≤ gb351) := ⟨h4_⟩
          have n5_ : Aside0 (w.heap.size ≤ gb351) := ⟨h5_⟩
          have n6_ : Aside0 (gb332 ≠ gb351) := ⟨h6_⟩
          have n7_ : Aside0 (gb351 ≠ gb332) := ⟨h7_⟩
          have n8_ : Aside0 (gb333 ≠ gb351) := ⟨h8_⟩
          have n9_ : Aside0 (gb351 ≠ gb333) := ⟨h9_⟩
          have n10_ : Aside0 (Below w.heap.size w w36) := ⟨h10_⟩
          clear HO_11
          clear BK332
          clear BK333
          clear HB
          clear h0_ h1_ h2_ h3_ h4_ h5_ h6_ h7_ h8_ h9_ h10_
          have HO_11 := n0_
          have BK332 := n1_
          have BK333 := n2_
          have BK351 := n3_
          have GW351 := n4_
          have GE351 := n5_
          have NB332_351 := n6_
          have NB351_332 := n7_
          have NB333_351 := n8_
          have NB351_333 := n9_
          have HB := n10_
          clear n0_ n1_ n2_ n3_ n4_ n5_ n6_ n7_ n8_ n9_ n10_
          have hHeld : w36.cell? ⟨gb333, 0, none⟩ = some (.int .i64 a3_0) ∧ w36.cell? ⟨gb333, 1, none⟩ = some (.int .i64 a3_1) ∧ w36.cell? (ad341.add ((x12_2).toNat * 6)) = some (.int .i64 ((rd_T48 l2 x12_2).f0.f0)) ∧ w36.cell? ⟨(ad341.add ((x12_2).toNat * 6)).block, (ad341.add ((x12_2).toNat * 6)).off + 1, none⟩ = some (.int .i64 ((rd_T48 l2 x12_2).f0.f1)) ∧ w36.cell? ⟨(ad341.add ((x12_2).toNat * 6)).block, (ad341.add ((x12_2).toNat * 6)).off + 2, none⟩ = some (.int .i64 ((rd_T48 l2 x12_2).f0.f2)) ∧ w36.cell? ⟨(ad341.add ((x12_2).toNat * 6)).block, (ad341.add ((x12_2).toNat * 6)).off + 3, none⟩ = some (.int .i64 ((rd_T48 l2 x12_2).f0.f3)) ∧ w36.cell? ⟨(ad341.add ((x12_2).toNat * 6)).block, (ad341.add ((x12_2).toNat * 6)).off + 4, none⟩ = some (.int .i64 ((rd_T48 l2 x12_2).f1.f0)) ∧ w36.cell? ⟨(ad341.add ((x12_2).toNat * 6)).block, (ad341.add ((x12_2).toNat * 6)).off + 5, none⟩ = some (.int .i64 ((rd_T48 l2 x12_2).f1.f1)) ∧ w36.cell? (ad341.add ((x12_2).toNat * 6)) = some (.int .i64 ((rd_T48 l2 x12_2).f0.f0)) ∧ w36.cell? ⟨(ad341.add ((x12_2).toNat * 6)).block, (ad341.add ((x12_2).toNat * 6)).off + 1, none⟩ = some (.int .i64 ((rd_T48 l2 x12_2).f0.f1)) ∧ w36.cell? ⟨(ad341.add ((x12_2).toNat * 6)).block, (ad341.add ((x12_2).toNat * 6)).off + 2, none⟩ = some (.int .i64 ((rd_T48 l2 x12_2).f0.f2)) ∧ w36.cell? ⟨(ad341.add ((x12_2).toNat * 6)).block, (ad341.add ((x12_2).toNat * 6)).off + 3, none⟩ = some (.int .i64 ((rd_T48 l2 x12_2).f0.f3)) ∧ w36.cell? ⟨(ad341.add ((x12_2).toNat * 6)).block, (ad341.add ((x12_2).toNat * 6)).off + 4, none⟩ = some (.int .i64 ((rd_T48 l2 x12_2).f1.f0)) ∧ w36.cell? ⟨(ad341.add ((x12_2).toNat * 6)).block, (ad341.add ((x12_2).toNat * 6)).off + 5, none⟩ = some (.int .i64 ((rd_T48 l2 x12_2).f1.f1)) := hS_
          refine norm_ (a' := ?_) ?_ ?_
          rotate_left
          ·simp only [putAll, Act.put, sA, sB, sC]
           rfl
          refine ro 15 (some 50) (bT 18 17) HT_ (fun K hK => ?_)
          refine gs Tryz.func41 #[.agg #[.int .i64 ((rd_T48 l2 x12_2).f1.f0), .int .i64 ((rd_T48 l2 x12_2).f1.f1)], .agg #[.int .i64 t347, .int .i64 t348]] ?_
          with_reducible refine (spec_l01Add.calls _ _ _ _ _ _ _ A28.out).mono ?_
          rintro e w37 ⟨rfl, hb⟩
          refine ⟨_, rfl, ?_⟩
          replace HO_11 := asd (Kd.R_below (kr HO_11) hb)
          replace BK332 := bB BK332 hb
          replace BK333 := bB BK333 hb
          replace BK351 := bB BK351 hb
          replace HB := bS3 HB GE332 GE333 GE351 hb
          (try clear hb)
          (try clear hb2)
          (try clear hk)
          (try clear hi)
          refine hK.out _ _ (cb2 BK333 (cx6 HB hw341_0 hw341_1 hw341_2 hw341_3 hw341_4 hw341_5 (ex6 HB hw342_0 hw342_1 hw342_2 hw342_3 hw342_4 hw342_5))).out (fun hHeld => ?_)
          clear hK K
          refine norm_ (a' := ?_) ?_ ?_
          rotate_left
          ·show Act.put _ (some 50) _ = _
           simp only [Act.put, sA, sB, sC, i64_w, i32_w]
           rfl
          exact norm_ (by first | (simp only [putAll, Act.put, sA, sB, sC]; done) | (simp only [putAll, Act.put, sA, sB, sC]; rfl)) (hJ12_13_14_15_16 (gb351) _ ⟨hHeld, (kr HO_11), (bkp BK332), (bkp BK333), (bkp BK351), GW351.out, GE351.out, NB332_351.out, NB351_332.out, NB333_351.out, NB351_333.out, (bbw3 HB GE332 GE333 GE351)⟩)
        ·skip
         rintro _ w36 ⟨hS_, h0_, h1_, h2_, h3_⟩
         have n0_ : Aside0 (Kd.R k48 48 w36 w.heap.size (fun _ => True) u11 x11_2) := ⟨h0_⟩
         have n1_ : Aside0 (w36.heap[gb332]? = some (.cells #[.int .i64 a1_0, .int .i64 a1_1, .int .i64 a1_2] 29 (0, 0))) := ⟨h1_⟩
         have n2_ : Aside0 (w36.heap[gb333]? = some (.cells #[.int .i64 a3_0, .int .i64 a3_1] 38 (0, 0))) := ⟨h2_⟩
         have n3_ : Aside0 (Below w.heap.size w w36) := ⟨h3_⟩
         clear HO_11
         clear BK332
         clear BK333
         clear HB
         clear h0_ h1_ h2_ h3_
         have HO_11 := n0_
         have BK332 := n1_
         have BK333 := n2_
         have HB := n3_
         clear n0_ n1_ n2_ n3_
         have hHeld : w36.cell? ⟨gb333, 0, none⟩ = some (.int .i64 a3_0) ∧ w36.cell? ⟨gb333, 1, none⟩ = some (.int .i64 a3_1) ∧ w36.cell? (ad341.add ((x12_2).toNat * 6)) = some (.int .i64 ((rd_T48 l2 x12_2).f0.f0)) ∧ w36.cell? ⟨(ad341.add ((x12_2).toNat * 6)).block, (ad341.add ((x12_2).toNat * 6)).off + 1, none⟩ = some (.int .i64 ((rd_T48 l2 x12_2).f0.f1)) ∧ w36.cell? ⟨(ad341.add ((x12_2).toNat * 6)).block, (ad341.add ((x12_2).toNat * 6)).off + 2, none⟩ = some (.int .i64 ((rd_T48 l2 x12_2).f0.f2)) ∧ w36.cell? ⟨(ad341.add ((x12_2).toNat * 6)).block, (ad341.add ((x12_2).toNat * 6)).off + 3, none⟩ = some (.int .i64 ((rd_T48 l2 x12_2).f0.f3)) ∧ w36.cell? ⟨(ad341.add ((x12_2).toNat * 6)).block, (ad341.add ((x12_2).toNat * 6)).off + 4, none⟩ = some (.int .i64 ((rd_T48 l2 x12_2).f1.f0)) ∧ w36.cell? ⟨(ad341.add ((x12_2).toNat * 6)).block, (ad341.add ((x12_2).toNat * 6)).off + 5, none⟩ = some (.int .i64 ((rd_T48 l2 x12_2).f1.f1)) ∧ w36.cell? (ad341.add ((x12_2).toNat * 6)) = some (.int .i64 ((rd_T48 l2 x12_2).f0.f0)) ∧ w36.cell? ⟨(ad341.add ((x12_2).toNat * 6)).block, (ad341.add ((x12_2).toNat * 6)).off + 1, none⟩ = some (.int .i64 ((rd_T48 l2 x12_2).f0.f1)) ∧ w36.cell? ⟨(ad341.add ((x12_2).toNat * 6)).block, (ad341.add ((x12_2).toNat * 6)).off + 2, none⟩ = some (.int .i64 ((rd_T48 l2 x12_2).f0.f2)) ∧ w36.cell? ⟨(ad341.add ((x12_2).toNat * 6)).block, (ad341.add ((x12_2).toNat * 6)).off + 3, none⟩ = some (.int .i64 ((rd_T48 l2 x12_2).f0.f3)) ∧ w36.cell? ⟨(ad341.add ((x12_2).toNat * 6)).block, (ad341.add ((x12_2).toNat * 6)).off + 4, none⟩ = some (.int .i64 ((rd_T48 l2 x12_2).f1.f0)) ∧ w36.cell? ⟨(ad341.add ((x12_2).toNat * 6)).block, (ad341.add ((x12_2).toNat * 6)).off + 5, none⟩ = some (.int .i64 ((rd_T48 l2 x12_2).f1.f1)) := hS_
         refine norm_ (a' := ?_) ?_ ?_
         rotate_left
         ·simp only [putAll, Act.put, sA, sB, sC]
          rfl
         refine ro 16 (some 13) (bT 18 17) HT_ (fun K hK => ?_)
         refine box_step ?hg (N := 13) ?hd (cs := #[.int .i64 0, .int .i64 0]) (t := 38) ?hr ?_; (case hd => rfl); (case hg => rfl); (case hr => first | (go_simp; done) | (go_simp; rfl))
         intro gb351 hg w37 hbox hb
         replace HO_11 := asd (Kd.R_below (kr HO_11) hb)
         have BK351 := asd (hbox)
         have GW351 := ngw2 hg HB GE332 GE333
         have GE351 := ngw2 hg HB GE332 GE333
         replace HB := bS2 HB GE332 GE333 hb
         have NB332_351 := nlt hg BK332
         have NB351_332 := nsy (nlt hg BK332)
         replace BK332 := bB BK332 hb
         have NB333_351 := nlt hg BK333
         have NB351_333 := nsy (nlt hg BK333)
         replace BK333 := bB BK333 hb
         clear hb hbox hg
         refine hK.out _ _ (cb2 BK333 (cx6 HB hw341_0 hw341_1 hw341_2 hw341_3 hw341_4 hw341_5 (ex6 HB hw342_0 hw342_1 hw342_2 hw342_3 hw342_4 hw342_5))).out (fun hHeld => ?_)
         clear hK K
         refine norm_ (a' := ?_) ?_ ?_
         rotate_left
         ·show Act.put _ (some 13) _ = _
          simp only [Act.put, sA, sB, sC, i64_w, i32_w]
          rfl
         exact norm_ (by first | (simp only [putAll, Act.put, sA, sB, sC]; done) | (simp only [putAll, Act.put, sA, sB, sC]; rfl)) (hJ12_13_14_15_16 (gb351) _ ⟨hHeld, (kr HO_11), (bkp BK332), (bkp BK333), (bkp BK351), GW351.out, GE351.out, NB332_351.out, NB351_332.out, NB333_351.out, NB351_333.out, (bbw3 HB GE332 GE333 GE351)⟩)
       rintro gb351 w37 ⟨hS_, h0_, h1_, h2_, h3_, h4_, h5_, h6_, h7_, h8_, h9_, h10_⟩
       have n0_ : Aside0 (Kd.R k48 48 w37 w.heap.size (fun _ => True) u11 x11_2) := ⟨h0_⟩
       have n1_ : Aside0 (w37.heap[gb332]? = some (.cells #[.int .i64 a1_0, .int .i64 a1_1, .int .i64 a1_2] 29 (0, 0))) := ⟨h1_⟩
       have n2_ : Aside0 (w37.heap[gb333]? = some (.cells #[.int .i64 a3_0, .int .i64 a3_1] 38 (0, 0))) := ⟨h2_⟩
       have n3_ : Aside0 (w37.heap[gb351]? = some (.cells #[.int .i64 0, .int .i64 0] 38 (0, 0))) := ⟨h3_⟩
       have n4_ : Aside0 (w.heap.size ≤ gb351) := ⟨h4_⟩
       have n5_ : Aside0 (w.heap.size ≤ gb351) := ⟨h5_⟩
       have n6_ : Aside0 (gb332 ≠ gb351) := ⟨h6_⟩
       have n7_ : Aside0 (gb351 ≠ gb332) := ⟨h7_⟩
       have n8_ : Aside0 (gb333 ≠ gb351) := ⟨h8_⟩
       have n9_ : Aside0 (gb351 ≠ gb333) := ⟨h9_⟩
       have n10_ : Aside0 (Below w.heap.size w w37) := ⟨h10_⟩
       clear HO_11
       clear BK332
       clear BK333
       clear HB
       clear h0_ h1_ h2_ h3_ h4_ h5_ h6_ h7_ h8_ h9_ h10_
       have HO_11 := n0_
       have BK332 := n1_
       have BK333 := n2_
       have BK351 := n3_
       have GW351 := n4_
       have GE351 := n5_
       have NB332_351 := n6_
       have NB351_332 := n7_
       have NB333_351 := n8_
       have NB351_333 := n9_
       have HB := n10_
       clear n0_ n1_ n2_ n3_ n4_ n5_ n6_ n7_ n8_ n9_ n10_
       have hHeld : w37.cell? ⟨gb333, 0, none⟩ = some (.int .i64 a3_0) ∧ w37.cell? ⟨gb333, 1, none⟩ = some (.int .i64 a3_1) ∧ w37.cell? (ad341.add ((x12_2).toNat * 6)) = some (.int .i64 ((rd_T48 l2 x12_2).f0.f0)) ∧ w37.cell? ⟨(ad341.add ((x12_2).toNat * 6)).block, (ad341.add ((x12_2).toNat * 6)).off + 1, none⟩ = some (.int .i64 ((rd_T48 l2 x12_2).f0.f1)) ∧ w37.cell? ⟨(ad341.add ((x12_2).toNat * 6)).block, (ad341.add ((x12_2).toNat * 6)).off + 2, none⟩ = some (.int .i64 ((rd_T48 l2 x12_2).f0.f2)) ∧ w37.cell? ⟨(ad341.add ((x12_2).toNat * 6)).block, (ad341.add ((x12_2).toNat * 6)).off + 3, none⟩ = some (.int .i64 ((rd_T48 l2 x12_2).f0.f3)) ∧ w37.cell? ⟨(ad341.add ((x12_2).toNat * 6)).block, (ad341.add ((x12_2).toNat * 6)).off + 4, none⟩ = some (.int .i64 ((rd_T48 l2 x12_2).f1.f0)) ∧ w37.cell? ⟨(ad341.add ((x12_2).toNat * 6)).block, (ad341.add ((x12_2).toNat * 6)).off + 5, none⟩ = some (.int .i64 ((rd_T48 l2 x12_2).f1.f1)) ∧ w37.cell? (ad341.add ((x12_2).toNat * 6)) = some (.int .i64 ((rd_T48 l2 x12_2).f0.f0)) ∧ w37.cell? ⟨(ad341.add ((x12_2).toNat * 6)).block, (ad341.add ((x12_2).toNat * 6)).off + 1, none⟩ = some (.int .i64 ((rd_T48 l2 x12_2).f0.f1)) ∧ w37.cell? ⟨(ad341.add ((x12_2).toNat * 6)).block, (ad341.add ((x12_2).toNat * 6)).off + 2, none⟩ = some (.int .i64 ((rd_T48 l2 x12_2).f0.f2)) ∧ w37.cell? ⟨(ad341.add ((x12_2).toNat * 6)).block, (ad341.add ((x12_2).toNat * 6)).off + 3, none⟩ = some (.int .i64 ((rd_T48 l2 x12_2).f0.f3)) ∧ w37.cell? ⟨(ad341.add ((x12_2).toNat * 6)).block, (ad341.add ((x12_2).toNat * 6)).off + 4, none⟩ = some (.int .i64 ((rd_T48 l2 x12_2).f1.f0)) ∧ w37.cell? ⟨(ad341.add ((x12_2).toNat * 6)).block, (ad341.add ((x12_2).toNat * 6)).off + 5, none⟩ = some (.int .i64 ((rd_T48 l2 x12_2).f1.f1)) := hS_
       refine norm_ (a' := ?_) ?_ ?_
       rotate_left
       ·simp only [putAll, Act.put, sA, sB, sC]
        rfl
       refine ro 17 (none) (bT 18 18) HT_ (fun K hK => ?_)
       have hs38 : w37.cell? ⟨gb351, 0, none⟩ = some (.int .i64 0) := bcl BK351 0
       have hfs38 := blk_frozen BK351.out 0
       have hns38_0 := NB332_351.out
       have hns38_1 := NB333_351.out
       have hms38_0 := NB351_332.out
       have hms38_1 := NB351_333.out
       have hs39 : w37.cell? ⟨gb351, 1, none⟩ = some (.int .i64 0) := bcl BK351 1
       have hfs39 := blk_frozen BK351.out 1
       have hns39_0 := NB332_351.out
       have hns39_1 := NB333_351.out
       have hms39_0 := NB351_332.out
       have hms39_1 := NB351_333.out
       refine skip_ (w1 := ?_) (by rfl) rfl ?_ ?_
       rotate_left
       ·go_simp
        rfl
       refine hK.out _ _ ⟨(cf NB333_351 ((cf NB333_351 (hHeld.1)))), (cf NB333_351 ((cf NB333_351 (hHeld.2.1)))), ((cell_far (p := ⟨gb351, _, none⟩) (by first | exact Nat.ne_of_lt (Nat.lt_of_lt_of_le (by have := World.block_lt_of_cell? _ _ hw341_0; first | rwa [add_block] at this | exact this) GW351.out) | (rw [add_block]; exact Nat.ne_of_lt (Nat.lt_of_lt_of_le (by have := World.block_lt_of_cell? _ _ hw341_0; first | rwa [add_block] at this | exact this) GW351.out)) | (show (Addr.add _ _).block ≠ _; rw [add_block]; exact Nat.ne_of_lt (Nat.lt_of_lt_of_le (by have := World.block_lt_of_cell? _ _ hw341_0; first | rwa [add_block] at this | exact this) GW351.out)) | (dsimp only; exact Nat.ne_of_lt (Nat.lt_of_lt_of_le (by have := World.block_lt_of_cell? _ _ hw341_0; first | rwa [add_block] at this | exact this) GW351.out))) _).trans (((cell_far (p := ⟨gb351, _, none⟩) (by first | exact Nat.ne_of_lt (Nat.lt_of_lt_of_le (by have := World.block_lt_of_cell? _ _ hw341_0; first | rwa [add_block] at this | exact this) GW351.out) | (rw [add_block]; exact Nat.ne_of_lt (Nat.lt_of_lt_of_le (by have := World.block_lt_of_cell? _ _ hw341_0; first | rwa [add_block] at this | exact this) GW351.out)) | (show (Addr.add _ _).block ≠ _; rw [add_block]; exact Nat.ne_of_lt (Nat.lt_of_lt_of_le (by have := World.block_lt_of_cell? _ _ hw341_0; first | rwa [add_block] at this | exact this) GW351.out)) | (dsimp only; exact Nat.ne_of_lt (Nat.lt_of_lt_of_le (by have := World.block_lt_of_cell? _ _ hw341_0; first | rwa [add_block] at this | exact this) GW351.out))) _).trans (hHeld.2.2.1)))), ((cell_far (p := ⟨gb351, _, none⟩) (by first | exact Nat.ne_of_lt (Nat.lt_of_lt_of_le (by have := World.block_lt_of_cell? _ _ hw341_1; first | rwa [add_block] at this | exact this) GW351.out) | (rw [add_block]; exact Nat.ne_of_lt (Nat.lt_of_lt_of_le (by have := World.block_lt_of_cell? _ _ hw341_1; first | rwa [add_block] at this | exact this) GW351.out)) | (show (Addr.add _ _).block ≠ _; rw [add_block]; exact Nat.ne_of_lt (Nat.lt_of_lt_of_le (by have := World.block_lt_of_cell? _ _ hw341_1; first | rwa [add_block] at this | exact this) GW351.out)) | (dsimp only; exact Nat.ne_of_lt (Nat.lt_of_lt_of_le (by have := World.block_lt_of_cell? _ _ hw341_1; first | rwa [add_block] at this | exact this) GW351.out))) _).trans (((cell_far (p := ⟨gb351, _, none⟩) (by first | exact Nat.ne_of_lt (Nat.lt_of_lt_of_le (by have := World.block_lt_of_cell? _ _ hw341_1; first | rwa [add_block] at this | exact this) GW351.out) | (rw [add_block]; exact Nat.ne_of_lt (Nat.lt_of_lt_of_le (by have := World.block_lt_of_cell? _ _ hw341_1; first | rwa [add_block] at this | exact this) GW351.out)) | (show (Addr.add _ _).block ≠ _; rw [add_block]; exact Nat.ne_of_lt (Nat.lt_of_lt_of_le (by have := World.block_lt_of_cell? _ _ hw341_1; first | rwa [add_block] at this | exact this) GW351.out)) | (dsimp only; exact Nat.ne_of_lt (Nat.lt_of_lt_of_le (by have := World.block_lt_of_cell? _ _ hw341_1; first | rwa [add_block] at this | exact this) GW351.out))) _).trans (hHeld.2.2.2.1)))), ((cell_far (p := ⟨gb351, _, none⟩) (by first | exact Nat.ne_of_lt (Nat.lt_of_lt_of_le (by have := World.block_lt_of_cell? _ _ hw341_2; first | rwa [add_block] at this | exact this) GW351.out) | (rw [add_block]; exact Nat.ne_of_lt (Nat.lt_of_lt_of_le (by have := World.block_lt_of_cell? _ _ hw341_2; first | rwa [add_block] at this | exact this) GW351.out)) | (show (Addr.add _ _).block ≠ _; rw [add_block]; exact Nat.ne_of_lt (Nat.lt_of_lt_of_le (by have := World.block_lt_of_cell? _ _ hw341_2; first | rwa [add_block] at this | exact this) GW351.out)) | (dsimp only; exact Nat.ne_of_lt (Nat.lt_of_lt_of_le (by have := World.block_lt_of_cell? _ _ hw341_2; first | rwa [add_block] at this | exact this) GW351.out))) _).trans (((cell_far (p := ⟨gb351, _, none⟩) (by first | exact Nat.ne_of_lt (Nat.lt_of_lt_of_le (by have := World.block_lt_of_cell? _ _ hw341_2; first | rwa [add_block] at this | exact this) GW351.out) | (rw [add_block]; exact Nat.ne_of_lt (Nat.lt_of_lt_of_le (by have := World.block_lt_of_cell? _ _ hw341_2; first | rwa [add_block] at this | exact this) GW351.out)) | (show (Addr.add _ _).block ≠ _; rw [add_block]; exact Nat.ne_of_lt (Nat.lt_of_lt_of_le (by have := World.block_lt_of_cell? _ _ hw341_2; first | rwa [add_block] at this | exact this) GW351.out)) | (dsimp only; exact Nat.ne_of_lt (Nat.lt_of_lt_of_le (by have := World.block_lt_of_cell? _ _ hw341_2; first | rwa [add_block] at this | exact this) GW351.out))) _).trans (hHeld.2.2.2.2.1)))), ((cell_far (p := ⟨gb351, _, none⟩) (by first | exact Nat.ne_of_lt (Nat.lt_of_lt_of_le (by have := World.block_lt_of_cell? _ _ hw341_3; first | rwa [add_block] at this | exact this) GW351.out) | (rw [add_block]; exact Nat.ne_of_lt (Nat.lt_of_lt_of_le (by have := World.block_lt_of_cell? _ _ hw341_3; first | rwa [add_block] at this | exact this) GW351.out)) | (show (Addr.add _ _).block ≠ _; rw [add_block]; exact Nat.ne_of_lt (Nat.lt_of_lt_of_le (by have := World.block_lt_of_cell? _ _ hw341_3; first | rwa [add_block] at this | exact this) GW351.out)) | (dsimp only; exact Nat.ne_of_lt (Nat.lt_of_lt_of_le (by have := World.block_lt_of_cell? _ _ hw341_3; first | rwa [add_block] at this | exact this) GW351.out))) _).trans (((cell_far (p := ⟨gb351, _, none⟩) (by first | exact Nat.ne_of_lt (Nat.lt_of_lt_of_le (by have := World.block_lt_of_cell? _ _ hw341_3; first | rwa [add_block] at this | exact this) GW351.out) | (rw [add_block]; exact Nat.ne_of_lt (Nat.lt_of_lt_of_le (by have := World.block_lt_of_cell? _ _ hw341_3; first | rwa [add_block] at this | exact this) GW351.out)) | (show (Addr.add _ _).block ≠ _; rw [add_block]; exact Nat.ne_of_lt (Nat.lt_of_lt_of_le (by have := World.block_lt_of_cell? _ _ hw341_3; first | rwa [add_block] at this | exact this) GW351.out)) | (dsimp only; exact Nat.ne_of_lt (Nat.lt_of_lt_of_le (by have := World.block_lt_of_cell? _ _ hw341_3; first | rwa [add_block] at this | exact this) GW351.out))) _).trans (hHeld.2.2.2.2.2.1)))), ((cell_far (p := ⟨gb351, _, none⟩) (by first | exact Nat.ne_of_lt (Nat.lt_of_lt_of_le (by have := World.block_lt_of_cell? _ _ hw341_4; first | rwa [add_block] at this | exact this) GW351.out) | (rw [add_block]; exact Nat.ne_of_lt (Nat.lt_of_lt_of_le (by have := World.block_lt_of_cell? _ _ hw341_4; first | rwa [add_block] at this | exact this) GW351.out)) | (show (Addr.add _ _).block ≠ _; rw [add_block]; exact Nat.ne_of_lt (Nat.lt_of_lt_of_le (by have := World.block_lt_of_cell? _ _ hw341_4; first | rwa [add_block] at this | exact this) GW351.out)) | (dsimp only; exact Nat.ne_of_lt (Nat.lt_of_lt_of_le (by have := World.block_lt_of_cell? _ _ hw341_4; first | rwa [add_block] at this | exact this) GW351.out))) _).trans (((cell_far (p := ⟨gb351, _, none⟩) (by first | exact Nat.ne_of_lt (Nat.lt_of_lt_of_le (by have := World.block_lt_of_cell? _ _ hw341_4; first | rwa [add_block] at this | exact this) GW351.out) | (rw [add_block]; exact Nat.ne_of_lt (Nat.lt_of_lt_of_le (by have := World.block_lt_of_cell? _ _ hw341_4; first | rwa [add_block] at this | exact this) GW351.out)) | (show (Addr.add _ _).block ≠ _; rw [add_block]; exact Nat.ne_of_lt (Nat.lt_of_lt_of_le (by have := World.block_lt_of_cell? _ _ hw341_4; first | rwa [add_block] at this | exact this) GW351.out)) | (dsimp only; exact Nat.ne_of_lt (Nat.lt_of_lt_of_le (by have := World.block_lt_of_cell? _ _ hw341_4; first | rwa [add_block] at this | exact this) GW351.out))) _).trans (hHeld.2.2.2.2.2.2.1)))), ((cell_far (p := ⟨gb351, _, none⟩) (by first | exact Nat.ne_of_lt (Nat.lt_of_lt_of_le (by have := World.block_lt_of_cell? _ _ hw341_5; first | rwa [add_block] at this | exact this) GW351.out) | (rw [add_block]; exact Nat.ne_of_lt (Nat.lt_of_lt_of_le (by have := World.block_lt_of_cell? _ _ hw341_5; first | rwa [add_block] at this | exact this) GW351.out)) | (show (Addr.add _ _).block ≠ _; rw [add_block]; exact Nat.ne_of_lt (Nat.lt_of_lt_of_le (by have := World.block_lt_of_cell? _ _ hw341_5; first | rwa [add_block] at this | exact this) GW351.out)) | (dsimp only; exact Nat.ne_of_lt (Nat.lt_of_lt_of_le (by have := World.block_lt_of_cell? _ _ hw341_5; first | rwa [add_block] at this | exact this) GW351.out))) _).trans (((cell_far (p := ⟨gb351, _, none⟩) (by first | exact Nat.ne_of_lt (Nat.lt_of_lt_of_le (by have := World.block_lt_of_cell? _ _ hw341_5; first | rwa [add_block] at this | exact this) GW351.out) | (rw [add_block]; exact Nat.ne_of_lt (Nat.lt_of_lt_of_le (by have := World.block_lt_of_cell? _ _ hw341_5; first | rwa [add_block] at this | exact this) GW351.out)) | (show (Addr.add _ _).block ≠ _; rw [add_block]; exact Nat.ne_of_lt (Nat.lt_of_lt_of_le (by have := World.block_lt_of_cell? _ _ hw341_5; first | rwa [add_block] at this | exact this) GW351.out)) | (dsimp only; exact Nat.ne_of_lt (Nat.lt_of_lt_of_le (by have := World.block_lt_of_cell? _ _ hw341_5; first | rwa [add_block] at this | exact this) GW351.out))) _).trans (hHeld.2.2.2.2.2.2.2.1)))), ((cell_far (p := ⟨gb351, _, none⟩) (by first | exact Nat.ne_of_lt (Nat.lt_of_lt_of_le (by have := World.block_lt_of_cell? _ _ hw342_0; first | rwa [add_block] at this | exact this) GW351.out) | (rw [add_block]; exact Nat.ne_of_lt (Nat.lt_of_lt_of_le (by have := World.block_lt_of_cell? _ _ hw342_0; first | rwa [add_block] at this | exact this) GW351.out)) | (show (Addr.add _ _).block ≠ _; rw [add_block]; exact Nat.ne_of_lt (Nat.lt_of_lt_of_le (by have := World.block_lt_of_cell? _ _ hw342_0; first | rwa [add_block] at this | exact this) GW351.out)) | (dsimp only; exact Nat.ne_of_lt (Nat.lt_of_lt_of_le (by have := World.block_lt_of_cell? _ _ hw342_0; first | rwa [add_block] at this | exact this) GW351.out))) _).trans (((cell_far (p := ⟨gb351, _, none⟩) (by first | exact Nat.ne_of_lt (Nat.lt_of_lt_of_le (by have := World.block_lt_of_cell? _ _ hw342_0; first | rwa [add_block] at this | exact this) GW351.out) | (rw [add_block]; exact Nat.ne_of_lt (Nat.lt_of_lt_of_le (by have := World.block_lt_of_cell? _ _ hw342_0; first | rwa [add_block] at this | exact this) GW351.out)) | (show (Addr.add _ _).block ≠ _; rw [add_block]; exact Nat.ne_of_lt (Nat.lt_of_lt_of_le (by have := World.block_lt_of_cell? _ _ hw342_0; first | rwa [add_block] at this | exact this) GW351.out)) | (dsimp only; exact Nat.ne_of_lt (Nat.lt_of_lt_of_le (by have := World.block_lt_of_cell? _ _ hw342_0; first | rwa [add_block] at this | exact this) GW351.out))) _).trans (hHeld.2.2.2.2.2.2.2.2.1)))), ((cell_far (p := ⟨gb351, _, none⟩) (by first | exact Nat.ne_of_lt (Nat.lt_of_lt_of_le (by have := World.block_lt_of_cell? _ _ hw342_1; first | rwa [add_block] at this | exact this) GW351.out) | (rw [add_block]; exact Nat.ne_of_lt (Nat.lt_of_lt_of_le (by have := World.block_lt_of_cell? _ _ hw342_1; first | rwa [add_block] at this | exact this) GW351.out)) | (show (Addr.add _ _).block ≠ _; rw [add_block]; exact Nat.ne_of_lt (Nat.lt_of_lt_of_le (by have := World.block_lt_of_cell? _ _ hw342_1; first | rwa [add_block] at this | exact this) GW351.out)) | (dsimp only; exact Nat.ne_of_lt (Nat.lt_of_lt_of_le (by have := World.block_lt_of_cell? _ _ hw342_1; first | rwa [add_block] at this | exact this) GW351.out))) _).trans (((cell_far (p := ⟨gb351, _, none⟩) (by first | exact Nat.ne_of_lt (Nat.lt_of_lt_of_le (by have := World.block_lt_of_cell? _ _ hw342_1; first | rwa [add_block] at this | exact this) GW351.out) | (rw [add_block]; exact Nat.ne_of_lt (Nat.lt_of_lt_of_le (by have := World.block_lt_of_cell? _ _ hw342_1; first | rwa [add_block] at this | exact this) GW351.out)) | (show (Addr.add _ _).block ≠ _; rw [add_block]; exact Nat.ne_of_lt (Nat.lt_of_lt_of_le (by have := World.block_lt_of_cell? _ _ hw342_1; first | rwa [add_block] at this | exact this) GW351.out)) | (dsimp only; exact Nat.ne_of_lt (Nat.lt_of_lt_of_le (by have := World.block_lt_of_cell? _ _ hw342_1; first | rwa [add_block] at this | exact this) GW351.out))) _).trans (hHeld.2.2.2.2.2.2.2.2.2.1)))), ((cell_far (p := ⟨gb351, _, none⟩) (by first | exact Nat.ne_of_lt (Nat.lt_of_lt_of_le (by have := World.block_lt_of_cell? _ _ hw342_2; first | rwa [add_block] at this | exact this) GW351.out) | (rw [add_block]; exact Nat.ne_of_lt (Nat.lt_of_lt_of_le (by have := World.block_lt_of_cell? _ _ hw342_2; first | rwa [add_block] at this | exact this) GW351.out)) | (show (Addr.add _ _).block ≠ _; rw [add_block]; exact Nat.ne_of_lt (Nat.lt_of_lt_of_le (by have := World.block_lt_of_cell? _ _ hw342_2; first | rwa [add_block] at this | exact this) GW351.out)) | (dsimp only; exact Nat.ne_of_lt (Nat.lt_of_lt_of_le (by have := World.block_lt_of_cell? _ _ hw342_2; first | rwa [add_block] at this | exact this) GW351.out))) _).trans (((cell_far (p := ⟨gb351, _, none⟩) (by first | exact Nat.ne_of_lt (Nat.lt_of_lt_of_le (by have := World.block_lt_of_cell? _ _ hw342_2; first | rwa [add_block] at this | exact this) GW351.out) | (rw [add_block]; exact Nat.ne_of_lt (Nat.lt_of_lt_of_le (by have := World.block_lt_of_cell? _ _ hw342_2; first | rwa [add_block] at this | exact this) GW351.out)) | (show (Addr.add _ _).block ≠ _; rw [add_block]; exact Nat.ne_of_lt (Nat.lt_of_lt_of_le (by have := World.block_lt_of_cell? _ _ hw342_2; first | rwa [add_block] at this | exact this) GW351.out)) | (dsimp only; exact Nat.ne_of_lt (Nat.lt_of_lt_of_le (by have := World.block_lt_of_cell? _ _ hw342_2; first | rwa [add_block] at this | exact this) GW351.out))) _).trans (hHeld.2.2.2.2.2.2.2.2.2.2.1)))), ((cell_far (p := ⟨gb351, _, none⟩) (by first | exact Nat.ne_of_lt (Nat.lt_of_lt_of_le (by have := World.block_lt_of_cell? _ _ hw342_3; first | rwa [add_block] at this | exact this) GW351.out) | (rw [add_block]; exact Nat.ne_of_lt (Nat.lt_of_lt_of_le (by have := World.block_lt_of_cell? _ _ hw342_3; first | rwa [add_block] at this | exact this) GW351.out)) | (show (Addr.add _ _).block ≠ _; rw [add_block]; exact Nat.ne_of_lt (Nat.lt_of_lt_of_le (by have := World.block_lt_of_cell? _ _ hw342_3; first | rwa [add_block] at this | exact this) GW351.out)) | (dsimp only; exact Nat.ne_of_lt (Nat.lt_of_lt_of_le (by have := World.block_lt_of_cell? _ _ hw342_3; first | rwa [add_block] at this | exact this) GW351.out))) _).trans (((cell_far (p := ⟨gb351, _, none⟩) (by first | exact Nat.ne_of_lt (Nat.lt_of_lt_of_le (by have := World.block_lt_of_cell? _ _ hw342_3; first | rwa [add_block] at this | exact this) GW351.out) | (rw [add_block]; exact Nat.ne_of_lt (Nat.lt_of_lt_of_le (by have := World.block_lt_of_cell? _ _ hw342_3; first | rwa [add_block] at this | exact this) GW351.out)) | (show (Addr.add _ _).block ≠ _; rw [add_block]; exact Nat.ne_of_lt (Nat.lt_of_lt_of_le (by have := World.block_lt_of_cell? _ _ hw342_3; first | rwa [add_block] at this | exact this) GW351.out)) | (dsimp only; exact Nat.ne_of_lt (Nat.lt_of_lt_of_le (by have := World.block_lt_of_cell? _ _ hw342_3; first | rwa [add_block] at this | exact this) GW351.out))) _).trans (hHeld.2.2.2.2.2.2.2.2.2.2.2.1)))), ((cell_far (p := ⟨gb351, _, none⟩) (by first | exact Nat.ne_of_lt (Nat.lt_of_lt_of_le (by have := World.block_lt_of_cell? _ _ hw342_4; first | rwa [add_block] at this | exact this) GW351.out) | (rw [add_block]; exact Nat.ne_of_lt (Nat.lt_of_lt_of_le (by have := World.block_lt_of_cell? _ _ hw342_4; first | rwa [add_block] at this | exact this) GW351.out)) | (show (Addr.add _ _).block ≠ _; rw [add_block]; exact Nat.ne_of_lt (Nat.lt_of_lt_of_le (by have := World.block_lt_of_cell? _ _ hw342_4; first | rwa [add_block] at this | exact this) GW351.out)) | (dsimp only; exact Nat.ne_of_lt (Nat.lt_of_lt_of_le (by have := World.block_lt_of_cell? _ _ hw342_4; first | rwa [add_block] at this | exact this) GW351.out))) _).trans (((cell_far (p := ⟨gb351, _, none⟩) (by first | exact Nat.ne_of_lt (Nat.lt_of_lt_of_le (by have := World.block_lt_of_cell? _ _ hw342_4; first | rwa [add_block] at this | exact this) GW351.out) | (rw [add_block]; exact Nat.ne_of_lt (Nat.lt_of_lt_of_le (by have := World.block_lt_of_cell? _ _ hw342_4; first | rwa [add_block] at this | exact this) GW351.out)) | (show (Addr.add _ _).block ≠ _; rw [add_block]; exact Nat.ne_of_lt (Nat.lt_of_lt_of_le (by have := World.block_lt_of_cell? _ _ hw342_4; first | rwa [add_block] at this | exact this) GW351.out)) | (dsimp only; exact Nat.ne_of_lt (Nat.lt_of_lt_of_le (by have := World.block_lt_of_cell? _ _ hw342_4; first | rwa [add_block] at this | exact this) GW351.out))) _).trans (hHeld.2.2.2.2.2.2.2.2.2.2.2.2.1)))), ((cell_far (p := ⟨gb351, _, none⟩) (by first | exact Nat.ne_of_lt (Nat.lt_of_lt_of_le (by have := World.block_lt_of_cell? _ _ hw342_5; first | rwa [add_block] at this | exact this) GW351.out) | (rw [add_block]; exact Nat.ne_of_lt (Nat.lt_of_lt_of_le (by have := World.block_lt_of_cell? _ _ hw342_5; first | rwa [add_block] at this | exact this) GW351.out)) | (show (Addr.add _ _).block ≠ _; rw [add_block]; exact Nat.ne_of_lt (Nat.lt_of_lt_of_le (by have := World.block_lt_of_cell? _ _ hw342_5; first | rwa [add_block] at this | exact this) GW351.out)) | (dsimp only; exact Nat.ne_of_lt (Nat.lt_of_lt_of_le (by have := World.block_lt_of_cell? _ _ hw342_5; first | rwa [add_block] at this | exact this) GW351.out))) _).trans (((cell_far (p := ⟨gb351, _, none⟩) (by first | exact Nat.ne_of_lt (Nat.lt_of_lt_of_le (by have := World.block_lt_of_cell? _ _ hw342_5; first | rwa [add_block] at this | exact this) GW351.out) | (rw [add_block]; exact Nat.ne_of_lt (Nat.lt_of_lt_of_le (by have := World.block_lt_of_cell? _ _ hw342_5; first | rwa [add_block] at this | exact this) GW351.out)) | (show (Addr.add _ _).block ≠ _; rw [add_block]; exact Nat.ne_of_lt (Nat.lt_of_lt_of_le (by have := World.block_lt_of_cell? _ _ hw342_5; first | rwa [add_block] at this | exact this) GW351.out)) | (dsimp only; exact Nat.ne_of_lt (Nat.lt_of_lt_of_le (by have := World.block_lt_of_cell? _ _ hw342_5; first | rwa [add_block] at this | exact this) GW351.out))) _).trans (hHeld.2.2.2.2.2.2.2.2.2.2.2.2.2))))⟩ (fun hHeld => ?_)
       clear hK K
       refine done_ (done_of HT_.out (by kernel_rfl)) ?_
       try go_wp2
       obtain ⟨w40, h_w40⟩ : ∃ w_, ((w37.setCell ⟨gb351, 0, none⟩ (.int .i64 t349)).setCell ⟨gb351, 1, none⟩ (.int .i64 t350)) = w_ := ⟨_, rfl⟩
       replace HO_11 : Aside0 (Kd.R k48 48 w40 w.heap.size (fun _ => True) u11 x11_2) := by rw [← h_w40]; exact ⟨by (with_reducible repeat (first | apply Kd.R_alloc | apply Kd.R_drewN | apply Kd.R_drew)); exact Kd.R_mono (rw2 (Kd.R_types HO_11.out BK351.out (by decide))) (fun _ hk => trivial)⟩
       replace BK332 : Aside0 (w40.heap[gb332]? = some (.cells #[.int .i64 a1_0, .int .i64 a1_1, .int .i64 a1_2] 29 (0, 0))) := by rw [← h_w40]; exact ⟨bq1 BK332 NB332_351⟩
       replace BK333 : Aside0 (w40.heap[gb333]? = some (.cells #[.int .i64 a3_0, .int .i64 a3_1] 38 (0, 0))) := by rw [← h_w40]; exact ⟨bq1 BK333 NB333_351⟩
       replace BK351 : Aside0 (w40.heap[gb351]? = some (.cells #[.int .i64 t349, .int .i64 t350] 38 (0, 0))) := by rw [← h_w40]; exact ⟨bq0 BK351⟩
       replace HB : Aside0 (Below w.heap.size w w40) := by rw [← h_w40]; exact ⟨bbw3 HB GE332 GE333 GE351⟩
       (try rw [h_w40]); clear h_w40
       replace HO_11 := asd (Kd.R_drew HO_11.out)
       replace BK332 := asd (blk_drew BK332.out)
       replace BK333 := asd (blk_drew BK333.out)
       replace BK351 := asd (blk_drew BK351.out)
       replace HB := asd (below_drew1 HB.out)
       obtain ⟨p352, q352, ad352, e352, hw352_0, hw352_1, hw352_2, hw352_3, hw352_4, hw352_5, hx352_0, hx352_1, hx352_2, hx352_3, hx352_4, hx352_5⟩ := at_T48w HR2.out HB x12_2
       obtain rfl : ad341 = ad352 := (by injection e352)
       refine sh 12 (cb3 BK332 (cb2 BK351 (ex6 HB hw352_0 hw352_1 hw352_2 hw352_3 hw352_4 hw352_5))) (fun hHeld => ?_); refine with_tabW spec_ShiftedGroup.tab9 spec_ShiftedGroup.bits9 (fun HT_ HW_ => ?_)
       generalize w40.drew = w41 at HO_11 BK332 BK333 BK351 HB hx352_0 hx352_1 hx352_2 hx352_3 hx352_4 hx352_5 hHeld ⊢
       refine pu 0 (some 51) (bT 12 1) HT_ ?_
       refine pu 2 (some 53) (bs 12 5) HT_ ?_
       refine pu 3 (some 54) (bs 12 13) HT_ ?_
       refine pu 4 (some 55) (bs 12 29) HT_ ?_
       refine pu 5 (some 56) (bs 12 61) HT_ ?_
       refine ta 1 (some 52) (bT 12 6) HT_ HW_ hHeld ?_
       refine ta 6 (some 57) (bT 12 7) HT_ HW_ hHeld ?_
       refine ta 7 (some 58) (bT 12 8) HT_ HW_ hHeld ?_
       refine pu 8 (some 59) (bT 12 9) HT_ ?_
       refine ro 9 (some 60) (bT 12 10) HT_ (fun K hK => ?_)
       refine gs Tryz.func30 #[.agg #[.int .i64 a1_0, .int .i64 a1_1, .int .i64 a1_2], .agg #[.int .i64 ((rd_T48 l2 x12_2).f0.f0), .int .i64 ((rd_T48 l2 x12_2).f0.f1), .int .i64 ((rd_T48 l2 x12_2).f0.f2), .int .i64 ((rd_T48 l2 x12_2).f0.f3), .int .i64 t349, .int .i64 t350]] ?_
       with_reducible refine (spec_l06Reduce.calls _ _ _ _ _ _ _ _ _ _ _ _ _ _ _ _ A29.out).mono ?_
       rintro e w42 ⟨rfl, hb⟩
       refine ⟨_, rfl, ?_⟩
       replace HO_11 := asd (Kd.R_below (kr HO_11) hb)
       replace BK332 := bB BK332 hb
       replace BK333 := bB BK333 hb
       replace BK351 := bB BK351 hb
       replace HB := bS3 HB GE332 GE333 GE351 hb
       (try clear hb)
       (try clear hb2)
       (try clear hk)
       (try clear hi)
       refine hK.out _ _ (cb3 BK332 (cb2 BK351 (ex6 HB hw352_0 hw352_1 hw352_2 hw352_3 hw352_4 hw352_5))).out (fun hHeld => ?_)
       clear hK K
       refine norm_ (a' := ?_) ?_ ?_
       rotate_left
       ·show Act.put _ (some 60) _ = _
        simp only [Act.put, sA, sB, sC, i64_w, i32_w]
        rfl
       refine ro 10 (some 61) (bT 12 11) HT_ (fun K hK => ?_)
       refine spec_l06Insert.step (w0 := w) w.heap.size (by rfl) (.tmp 51) (.tmp 60) rfl u11 x11_2 (⟨(⟨t353, t354, t355, t356⟩ : S46), (⟨t357, t358⟩ : S38)⟩ : S48) (fun _ => True) rfl rfl ?aF ?aO ?aB ?aS ?aL ?_
       (case aB => exact (bbw3 HB GE332 GE333 GE351))
       (case aF => exact (fun _ _ => trivial))
       (case aO => exact (kr HO_11))
       (case aS => exact (bsz3 HB GE332 GE333 GE351))
       (case aL => exact LMc30.out)
       intro v360 w43 ho hb hg hat
       rw [← Ny359.out] at ho
       have n0_ := asd (blk_grown (g := gb332) (o := .cells #[.int .i64 a1_0, .int .i64 a1_1, .int .i64 a1_2] 29 (0, 0)) (bkp BK332) hg (Kd.R_ne HO_11.out BK332.out (by decide)))
       have n1_ := asd (blk_grown (g := gb333) (o := .cells #[.int .i64 a3_0, .int .i64 a3_1] 38 (0, 0)) (bkp BK333) hg (Kd.R_ne HO_11.out BK333.out (by decide)))
       have n2_ := asd (blk_grown (g := gb351) (o := .cells #[.int .i64 t349, .int .i64 t350] 38 (0, 0)) (bkp BK351) hg (Kd.R_ne HO_11.out BK351.out (by decide)))
       have n3_ := asd (hb)
       have n4_ := asd (ho)
       clear BK332
       clear BK333
       clear BK351
       clear HB
       clear HO_11
       have BK332 := n0_
       have BK333 := n1_
       have BK351 := n2_
       have HB := n3_
       have HO361 := n4_
       clear n0_ n1_ n2_ n3_ n4_
       clear ho hb hg hat
       refine hK.out _ _ (cb3 BK332 (cb2 BK351 (ex6 HB hw352_0 hw352_1 hw352_2 hw352_3 hw352_4 hw352_5))).out (fun hHeld => ?_)
       clear hK K
       refine norm_ (a' := ?_) ?_ ?_
       rotate_left
       ·show Act.put _ (some 61) _ = _
        simp only [Act.put, sA, sB, sC, i64_w, i32_w]
        rfl
       refine pu 11 (some 11) (bT 12 12) HT_ ?_
       refine done_ (done_of HT_.out (by kernel_rfl)) ?_
       try go_wp2
       go_roundg k2
       case measure => have := HJ4.out; have := HK2.out; omega
       case rel => exact ⟨(y359), (wrap64 (x12_2 + 1)), (by first | rfl | (simp; done) | (simp [*]; done)), H', ⟨by have := HJ4.out; have := HK2.out; omega⟩, ⟨by (with_reducible repeat (first | apply Kd.R_alloc | apply Kd.R_drewN | apply Kd.R_drew)); exact HO361.out⟩, ⟨bkp BK332⟩, ⟨bkp BK333⟩, ⟨bbw3 HB GE332 GE333 GE351⟩⟩
      ·simp only [Option.some.injEq, Prod.mk.injEq] at H
       obtain ⟨rfl, rfl⟩ := H
       go_wp2
       go_ret2
       exact ⟨_, by first | rfl | (simp [errW_none, errW_some] <;> rfl) | (simp [*, errW_none, errW_some] <;> rfl), by (with_reducible repeat (first | apply Kd.R_alloc | apply Kd.R_drewN | apply Kd.R_drew)); exact HO_11.out, bbw2 HB GE332 GE333⟩
   ·rw [if_neg c20] at H
    have c20b0 : (x10_4 == 0) = false := beq_eq_false_iff_ne.mpr c20
    have c20b1 : (x10_4 != 0) = true := bne_iff_ne.mpr c20
    simp only [Option.some.injEq, Prod.mk.injEq] at H
    obtain ⟨rfl, rfl⟩ := H
    go_wp2
    go_ret2
    exact ⟨_, by first | rfl | (simp [errW_none, errW_some] <;> rfl) | (simp [*, errW_none, errW_some] <;> rfl), by first | exact Kd.R_nil _ _ _ _ _ | exact Kd.N_nil _ _ _ _ _ | exact Kd.V_nil _ _ _ _ _ | exact Kd.Q_nil _ _ _ _ _ | exact Kd.S_nil _ _ _ _ _, bbw2 HB GE332 GE333⟩

end Go.Proofs.YtdodghjnlekgeaaGreat.PA
