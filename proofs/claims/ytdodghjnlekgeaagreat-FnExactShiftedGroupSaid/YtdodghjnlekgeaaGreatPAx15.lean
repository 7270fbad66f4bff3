/- Walks written by program: each Go function that the law reaches comes to the plain function beside it. -/
import Derived.Test.YtdodghjnlekgeaaGreatPAx0
import Derived.Test.YtdodghjnlekgeaaGreatPAx2
import Derived.Test.YtdodghjnlekgeaaGreatPAx13
import Derived.Test.YtdodghjnlekgeaaGreatPAx14
namespace Go.Proofs.YtdodghjnlekgeaaGreat.PA
open Go.RowKit Go.Proofs.YtdodghjnlekgeaaGreatW.PrintWords Go.Proofs.YtdodghjnlekgeaaGreatW.PrintLast Go.Proofs.YtdodghjnlekgeaaGreatW.PrintMore
attribute [local go_sem] max2_int min2_int max_two min_two max_three min_three max_four min_four   -- for this text's walks alone
set_option linter.unusedVariables false
set_option linter.unusedSimpArgs false

/-! ### impl_Motion_times: function 73 -/
def impl_Motion_times.f (a0_0 : Int) (a0_1 : Int) (a0_2 : Int) (a0_3 : Int) (a0_4 : Int) (a0_5 : Int) (a1_0 : Int) (a1_1 : Int) (a1_2 : Int) (a1_3 : Int) (a1_4 : Int) (a1_5 : Int) : Option (Int × Int × Int × Int × Int × Int) := (impl_Mat_times.f a0_0 a0_1 a0_2 a0_3 a1_0 a1_1 a1_2 a1_3).bind fun bt426 => ((impl_Mat_apply.f a0_0 a0_1 a0_2 a0_3 a1_4 a1_5).bind fun bt430 => ((impl_Vec_add.f bt430.1 bt430.2 a0_4 a0_5).bind fun bt432 => (some (bt426.1, bt426.2.1, bt426.2.2.1, bt426.2.2.2, bt432.1, bt432.2))))
def impl_Motion_times.T1 : Bool × List (List Nat × List Nat) := (true, [([], []), ([0], [0]), ([], []), ([2], [2]), ([1, 3], [1, 3]), ([], []), ([5], [5]), ([], []), ([7], [7]), ([6, 8, 4], [6, 8]), ([], []), ([10], [10]), ([9, 11, 9], [9, 11]), ([4, 12], [4, 12]), ([13, 12, 0, 1, 2, 3, 4, 5, 6, 7, 8, 9, 10, 11, 12, 13], [13])])
def impl_Motion_times.B1 : List Nat := [0, 1, 0, 4, 15, 0, 32, 0, 128, 511, 0, 1024, 4095, 8191, 16383]
theorem impl_Motion_times.tab1 : rtab .any (opsOf Tryz.f73 1) = impl_Motion_times.T1 := by kernel_rfl
theorem impl_Motion_times.bits1 : waitsOk impl_Motion_times.T1.2 impl_Motion_times.B1 = true := by kernel_rfl
set_option maxHeartbeats 8000000 in
set_option maxRecDepth 100000 in
theorem impl_Motion_times.calls (a0_0 : Int) (a0_1 : Int) (a0_2 : Int) (a0_3 : Int) (a0_4 : Int) (a0_5 : Int) (a1_0 : Int) (a1_1 : Int) (a1_2 : Int) (a1_3 : Int) (a1_4 : Int) (a1_5 : Int) (r1 : Int) (r2 : Int) (r3 : Int) (r4 : Int) (r5 : Int) (r6 : Int) (w : World) (h : impl_Motion_times.f a0_0 a0_1 a0_2 a0_3 a0_4 a0_5 a1_0 a1_1 a1_2 a1_3 a1_4 a1_5 = some (r1, r2, r3, r4, r5, r6)) :
  Calls Tryz.prog 73 #[.agg #[.int .i64 a0_0, .int .i64 a0_1, .int .i64 a0_2, .int .i64 a0_3, .int .i64 a0_4, .int .i64 a0_5], .agg #[.int .i64 a1_0, .int .i64 a1_1, .int .i64 a1_2, .int .i64 a1_3, .int .i64 a1_4, .int .i64 a1_5]] w fun e w' => e = .returned (.agg #[.int .i64 r1, .int .i64 r2, .int .i64 r3, .int .i64 r4, .int .i64 r5, .int .i64 r6]) ∧ Below w.heap.size w w' := by
 have hu48 := Tryz.underlying48
 have hu46 := Tryz.underlying46
 have hu38 := Tryz.underlying38
 have HB := asd (Below.refl w.heap.size w)
 have H : ((impl_Mat_times.f a0_0 a0_1 a0_2 a0_3 a1_0 a1_1 a1_2 a1_3).bind fun bt426 => ((impl_Mat_apply.f a0_0 a0_1 a0_2 a0_3 a1_4 a1_5).bind fun bt430 => ((impl_Vec_add.f bt430.1 bt430.2 a0_4 a0_5).bind fun bt432 => (some (bt426.1, bt426.2.1, bt426.2.2.1, bt426.2.2.2, bt432.1, bt432.2))))) = some (r1, r2, r3, r4, r5, r6) := h
 clear h
 obtain ⟨⟨t426, t427, t428, t429⟩, A3, H⟩ := ob H
 try dsimp only at H
 obtain ⟨⟨t430, t431⟩, A4, H⟩ := ob H
 try dsimp only at H
 obtain ⟨⟨t432, t433⟩, A5, H⟩ := ob H
 try dsimp only at H
 simp only [Option.some.injEq, Prod.mk.injEq] at H
 obtain ⟨rfl, rfl, rfl, rfl, rfl, rfl⟩ := H
 go_enter Tryz.func73, Tryz.ntmps73
 try go_wp2_with (first | ((with_reducible refine gd 2 rfl ?_); refine bx #[.int .i64 a0_0, .int .i64 a0_1, .int .i64 a0_2, .int .i64 a0_3, .int .i64 a0_4, .int .i64 a0_5] 48 ?_; intro gb423 hg w6 BK423 hb; have GE423 := ngw0 hg HB; replace HB := bS0 HB hb; clear hb hg) | ((with_reducible refine gd 3 rfl ?_); refine bx #[.int .i64 a1_0, .int .i64 a1_1, .int .i64 a1_2, .int .i64 a1_3, .int .i64 a1_4, .int .i64 a1_5] 48 ?_; intro gb424 hg w7 BK424 hb; have GE424 := ngw1 hg HB GE423; replace HB := bS1 HB GE423 hb; have NB423_424 := nlt hg BK423; have NB424_423 := nsy (nlt hg BK423); replace BK423 := bB BK423 hb; clear hb hg) | ((with_reducible refine gd 4 rfl ?_); refine bx #[.int .i64 0, .int .i64 0, .int .i64 0, .int .i64 0, .int .i64 0, .int .i64 0] 48 ?_; intro gb425 hg w8 BK425 hb; have GE425 := ngw2 hg HB GE423 GE424; replace HB := bS2 HB GE423 GE424 hb; have NB423_425 := nlt hg BK423; have NB425_423 := nsy (nlt hg BK423); replace BK423 := bB BK423 hb; have NB424_425 := nlt hg BK424; have NB425_424 := nsy (nlt hg BK424); replace BK424 := bB BK424 hb; clear hb hg))
 replace BK423 := asd (blk_drew BK423.out)
 replace BK424 := asd (blk_drew BK424.out)
 replace BK425 := asd (blk_drew BK425.out)
 replace HB := asd (below_drew1 HB.out)
 refine sh 15 (cb6 BK423 (eb6 BK424)) (fun hHeld => ?_); refine with_tabW impl_Motion_times.tab1 impl_Motion_times.bits1 (fun HT_ HW_ => ?_)
 generalize w8.drew = w9 at BK423 BK424 BK425 HB hHeld ⊢
 refine pu 0 (some 5) (bT 15 1) HT_ ?_
 refine pu 2 (some 7) (bs 15 5) HT_ ?_
 refine pu 5 (some 10) (bs 15 37) HT_ ?_
 refine pu 7 (some 12) (bs 15 165) HT_ ?_
 refine pu 10 (some 15) (bs 15 1189) HT_ ?_
 refine ta 1 (some 6) (bs 15 1191) HT_ HW_ hHeld ?_
 refine ta 3 (some 8) (bs 15 1199) HT_ HW_ hHeld ?_
 refine ta 6 (some 11) (bs 15 1263) HT_ HW_ hHeld ?_
 refine ta 8 (some 13) (bs 15 1519) HT_ HW_ hHeld ?_
 refine ta 11 (some 16) (bs 15 3567) HT_ HW_ hHeld ?_
 refine ro 4 (some 9) (bs 15 3583) HT_ (fun K hK => ?_)
 refine gs Tryz.func108 #[.agg #[.int .i64 a0_0, .int .i64 a0_1, .int .i64 a0_2, .int .i64 a0_3], .agg #[.int .i64 a1_0, .int .i64 a1_1, .int .i64 a1_2, .int .i64 a1_3]] ?_
 with_reducible refine (impl_Mat_times.calls _ _ _ _ _ _ _ _ _ _ _ _ _ A3.out).mono ?_
 rintro e w10 ⟨rfl, hb⟩
 refine ⟨_, rfl, ?_⟩
 replace BK423 := bB BK423 hb
 replace BK424 := bB BK424 hb
 replace BK425 := bB BK425 hb
 replace HB := bS3 HB GE423 GE424 GE425 hb
 (try clear hb)
 (try clear hb2)
 (try clear hk)
 (try clear hi)
 refine hK.out _ _ (cb6 BK423 (eb6 BK424)).out (fun hHeld => ?_)
 clear hK K
 refine norm_ (a' := ?_) ?_ ?_
 rotate_left
 ·show Act.put _ (some 9) _ = _
  simp only [Act.put, sA, sB, sC, i64_w, i32_w]
  rfl
 refine ro 9 (some 14) (bT 15 12) HT_ (fun K hK => ?_)
 refine gs Tryz.func84 #[.agg #[.int .i64 a0_0, .int .i64 a0_1, .int .i64 a0_2, .int .i64 a0_3], .agg #[.int .i64 a1_4, .int .i64 a1_5]] ?_
 with_reducible refine (impl_Mat_apply.calls _ _ _ _ _ _ _ _ _ A4.out).mono ?_
 rintro e w11 ⟨rfl, hb⟩
 refine ⟨_, rfl, ?_⟩
 replace BK423 := bB BK423 hb
 replace BK424 := bB BK424 hb
 replace BK425 := bB BK425 hb
 replace HB := bS3 HB GE423 GE424 GE425 hb
 (try clear hb)
 (try clear hb2)
 (try clear hk)
 (try clear hi)
 refine hK.out _ _ (cb6 BK423 (eb6 BK424)).out (fun hHeld => ?_)
 clear hK K
 refine norm_ (a' := ?_) ?_ ?_
 rotate_left
 ·show Act.put _ (some 14) _ = _
  simp only [Act.put, sA, sB, sC, i64_w, i32_w]
  rfl
 refine ro 12 (some 17) (bT 15 13) HT_ (fun K hK => ?_)
 refine gs Tryz.func83 #[.agg #[.int .i64 t430, .int .i64 t431], .agg #[.int .i64 a0_4, .int .i64 a0_5]] ?_
 with_reducible refine (impl_Vec_add.calls _ _ _ _ _ _ _ A5.out).mono ?_
 rintro e w12 ⟨rfl, hb⟩
 refine ⟨_, rfl, ?_⟩
 replace BK423 := bB BK423 hb
 replace BK424 := bB BK424 hb
 replace BK425 := bB BK425 hb
 replace HB := bS3 HB GE423 GE424 GE425 hb
 (try clear hb)
 (try clear hb2)
 (try clear hk)
 (try clear hi)
 refine hK.out _ _ (cb6 BK423 (eb6 BK424)).out (fun hHeld => ?_)
 clear hK K
 refine norm_ (a' := ?_) ?_ ?_
 rotate_left
 ·show Act.put _ (some 17) _ = _
  simp only [Act.put, sA, sB, sC, i64_w, i32_w]
  rfl
 refine pu 13 (some 18) (bT 15 14) HT_ ?_
 refine ro 14 (none) (bT 15 15) HT_ (fun K hK => ?_)
 have hs13 : w12.cell? ⟨gb425, 0, none⟩ = some (.int .i64 0) := bcl BK425 0
 have hfs13 := blk_frozen BK425.out 0
 have hns13_0 := NB423_425.out
 have hns13_1 := NB424_425.out
 have hms13_0 := NB425_423.out
 have hms13_1 := NB425_424.out
 have hs14 : w12.cell? ⟨gb425, 1, none⟩ = some (.int .i64 0) := bcl BK425 1
 have hfs14 := blk_frozen BK425.out 1
 have hns14_0 := NB423_425.out
 have hns14_1 := NB424_425.out
 have hms14_0 := NB425_423.out
 have hms14_1 := NB425_424.out
 have hs15 : w12.cell? ⟨gb425, 2, none⟩ = some (.int .i64 0) := bcl BK425 2
 have hfs15 := blk_frozen BK425.out 2
 have hns15_0 := NB423_425.out
 have hns15_1 := NB424_425.out
 have hms15_0 := NB425_423.out
 have hms15_1 := NB425_424.out
 have hs16 : w12.cell? ⟨gb425, 3, none⟩ = some (.int .i64 0) := bcl BK425 3
 have hfs16 := blk_frozen BK425.out 3
 have hns16_0 := NB423_425.out
 have hns16_1 := NB424_425.out
 have hms16_0 := NB425_423.out
 have hms16_1 := NB425_424.out
 have hs17 : w12.cell? ⟨gb425, 4, none⟩ = some (.int .i64 0) := bcl BK425 4
 have hfs17 := blk_frozen BK425.out 4
 have hns17_0 := NB423_425.out
 have hns17_1 := NB424_425.out
 have hms17_0 := NB425_423.out
 have hms17_1 := NB425_424.out
 have hs18 : w12.cell? ⟨gb425, 5, none⟩ = some (.int .i64 0) := bcl BK425 5
 have hfs18 := blk_frozen BK425.out 5
 have hns18_0 := NB423_425.out
 have hns18_1 := NB424_425.out
 have hms18_0 := NB425_423.out
 have hms18_1 := NB425_424.out
 refine skip_ (w1 := ?_) (by rfl) rfl ?_ ?_
 rotate_left
 ·go_simp
  rfl
 refine hK.out _ _ ⟨(cf NB423_425 ((cf NB423_425 ((cf NB423_425 ((cf NB423_425 ((cf NB423_425 ((cf NB423_425 (hHeld.1)))))))))))), (cf NB423_425 ((cf NB423_425 ((cf NB423_425 ((cf NB423_425 ((cf NB423_425 ((cf NB423_425 (hHeld.2.1)))))))))))), (cf NB423_425 ((cf NB423_425 ((cf NB423_425 ((cf NB423_425 ((cf NB423_425 ((cf NB423_425 (hHeld.2.2.1)))))))))))), (cf NB423_425 ((cf NB423_425 ((cf NB423_425 ((cf NB423_425 ((cf NB423_425 ((cf NB423_425 (hHeld.2.2.2.1)))))))))))), (cf NB423_425 ((cf NB423_425 ((cf NB423_425 ((cf NB423_425 ((cf NB423_425 ((cf NB423_425 (hHeld.2.2.2.2.1)))))))))))), (cf NB423_425 ((cf NB423_425 ((cf NB423_425 ((cf NB423_425 ((cf NB423_425 ((cf NB423_425 (hHeld.2.2.2.2.2.1)))))))))))), (cf NB424_425 ((cf NB424_425 ((cf NB424_425 ((cf NB424_425 ((cf NB424_425 ((cf NB424_425 (hHeld.2.2.2.2.2.2.1)))))))))))), (cf NB424_425 ((cf NB424_425 ((cf NB424_425 ((cf NB424_425 ((cf NB424_425 ((cf NB424_425 (hHeld.2.2.2.2.2.2.2.1)))))))))))), (cf NB424_425 ((cf NB424_425 ((cf NB424_425 ((cf NB424_425 ((cf NB424_425 ((cf NB424_425 (hHeld.2.2.2.2.2.2.2.2.1)))))))))))), (cf NB424_425 ((cf NB424_425 ((cf NB424_425 ((cf NB424_425 ((cf NB424_425 ((cf NB424_425 (hHeld.2.2.2.2.2.2.2.2.2.1)))))))))))), (cf NB424_425 ((cf NB424_425 ((cf NB424_425 ((cf NB424_425 ((cf NB424_425 ((cf NB424_425 (hHeld.2.2.2.2.2.2.2.2.2.2.1)))))))))))), (cf NB424_425 ((cf NB424_425 ((cf NB424_425 ((cf NB424_425 ((cf NB424_425 ((cf NB424_425 (hHeld.2.2.2.2.2.2.2.2.2.2.2))))))))))))⟩ (fun hHeld => ?_)
 clear hK K
 refine done_ (done_of HT_.out (by kernel_rfl)) ?_
 try go_wp2
 refine bodyPost_ret (results_cell_row rfl _ _ gb425 48 #[.int .i64 t426, .int .i64 t427, .int .i64 t428, .int .i64 t429, .int .i64 t432, .int .i64 t433] (0, 0) _ rfl (bq0 BK425) Tryz.underlying48 rfl (by kernel_rfl)) rfl ?_
 exact er (bbw3 HB GE423 GE424 GE425)
/-! ### impl_compareNumbers: function 133 -/
def impl_compareNumbers.l0 : Nat → List Int → List Int → Int → Int → Option (Int)
 | 0, _, _, _, _ => none
 | k + 1, x0, x1, x7, x8 => if x8 < x7 then (if 0 ≤ x8 then (if x8 < (x0.length : Int) then (if x8 < (x1.length : Int) then (if (rd x0 x8) = (rd x1 x8) then (impl_compareNumbers.l0 k x0 x1 x7 (wrap64 (x8 + 1))) else (if (rd x0 x8) < (rd x1 x8) then (some (-1)) else (some 1))) else (none)) else (none)) else (none)) else (some 0)
def impl_compareNumbers.f (k : Nat) (l0 : List Int) (l1 : List Int) : Option (Int) := impl_compareNumbers.l0 k l0 l1 (l0.length : Int) 0
theorem impl_compareNumbers.mono_l : ∀ k, (∀ y0 y1 y2 y3, LeO (impl_compareNumbers.l0 k y0 y1 y2 y3) (impl_compareNumbers.l0 (k + 1) y0 y1 y2 y3))
 | 0 => fun _ _ _ _ r h => by simp [impl_compareNumbers.l0] at h
 | k + 1 => by
  have ih0 := impl_compareNumbers.mono_l k
  ·intro y0 y1 y2 y3
   unfold impl_compareNumbers.l0
   repeat' first
   | (with_reducible exact ih0 _ _ _ _)
   | (with_reducible exact LeO.refl _)
   | (with_reducible exact LeO.none _)
   | (with_reducible refine LeO.ite ?_ ?_)
   | (with_reducible refine LeO.bind ?_ (fun _ => ?_))
   | exact ih0 _ _ _ _
   | exact LeO.none _
   | refine LeO.ite ?_ ?_
   | refine LeO.bind ?_ (fun _ => ?_)
theorem impl_compareNumbers.mono : ∀ a0 a1 k, LeO (impl_compareNumbers.f k a0 a1) (impl_compareNumbers.f (k + 1) a0 a1) := by
 intro a0 a1 k
 have ih0 := impl_compareNumbers.mono_l k
 unfold impl_compareNumbers.f
 repeat' first
   | (with_reducible exact ih0 _ _ _ _)
   | (with_reducible exact LeO.refl _)
   | (with_reducible exact LeO.none _)
   | (with_reducible refine LeO.ite ?_ ?_)
   | (with_reducible refine LeO.bind ?_ (fun _ => ?_))
   | exact ih0 _ _ _ _
   | exact LeO.none _
   | refine LeO.ite ?_ ?_
   | refine LeO.bind ?_ (fun _ => ?_)
set_option maxHeartbeats 8000000 in
set_option maxRecDepth 100000 in
theorem impl_compareNumbers.calls (k : Nat) (A0 : Option Addr) (c0 : Nat) (l0 : List Int) (A1 : Option Addr) (c1 : Nat) (l1 : List Int) (r : Int) (w : World) (hr0 : Kd.C (Kd.int .i64) w A0 l0.length l0) (hc0 : l0.length ≤ c0) (hr1 : Kd.C (Kd.int .i64) w A1 l1.length l1) (hc1 : l1.length ≤ c1) (h : impl_compareNumbers.f k l0 l1 = some r) :
  Calls Tryz.prog 133 #[.slice A0 l0.length c0, .slice A1 l1.length c1] w fun e w' => e = .returned (.int .i64 r) ∧ Drawn0 w w' := by
 have HR0 := Aside0.mk hr0
 have HC0 := Aside0.mk hc0
 clear hr0 hc0
 have HR1 := Aside0.mk hr1
 have HC1 := Aside0.mk hc1
 clear hr1 hc1
 have H : (impl_compareNumbers.l0 k l0 l1 (l0.length : Int) 0) = some r := h
 clear h
 have H' := Aside0.mk H
 clear H
 go_enter Tryz.func133, Tryz.ntmps133
 go_wp2
 repeat (go_quiet (fail); try go_wp2)
 go_loopg [8] k (fun kq v8 w' => ∃ (x8_1 : Int), v8 = .int .i64 x8_1 ∧ Aside0 (impl_compareNumbers.l0 kq l0 l1 (l0.length : Int) x8_1 = some r) ∧ Aside0 (kq ≤ k) ∧ Drawn0 w w')
 case atStart => exact ⟨(0), (by first | rfl | (simp; done) | (simp [*]; done)), H', ⟨Nat.le_refl _⟩, by repeat (first | exact Drawn0.refl _ | apply Drawn0.step)⟩
 case round =>
  clear H'
  try clear c1
  try clear p2
  obtain ⟨x8_1, rfl, HA, HK1, ⟨m1, rfl⟩⟩ := hrel
  cases gk with
  | zero => exact absurd HA.out (by simp [impl_compareNumbers.l0])
  | succ k1 =>
   have H := HA.out
   clear HA
   simp only [impl_compareNumbers.l0] at H
   by_cases c3 : x8_1 < (l0.length : Int)
   rw [if_pos c3] at H
   have c3b0 := decide_eq_true c3
   clear c3
   by_cases c4 : 0 ≤ x8_1
   rw [if_pos c4] at H
   have c4b0 := decide_eq_true c4
   clear c4
   by_cases c5 : x8_1 < (l0.length : Int)
   rw [if_pos c5] at H
   have c5b0 := decide_eq_true c5
   clear c5
   by_cases c6 : x8_1 < (l1.length : Int)
   rw [if_pos c6] at H
   have c6b0 := decide_eq_true c6
   clear c6
   by_cases c7 : (rd l0 x8_1) = (rd l1 x8_1)
   rw [if_pos c7] at H
   have c7b0 : ((rd l0 x8_1) == (rd l1 x8_1)) = true := beq_iff_eq.mpr c7
   have c7b1 : ((rd l0 x8_1) != (rd l1 x8_1)) = false := bne_eq_false_iff_eq.mpr c7
   clear c7
   have H' := Aside0.mk H
   clear H
   rotate_left
   rw [if_neg c7] at H
   have c7b0 : ((rd l0 x8_1) == (rd l1 x8_1)) = false := beq_eq_false_iff_ne.mpr c7
   have c7b1 : ((rd l0 x8_1) != (rd l1 x8_1)) = true := bne_iff_ne.mpr c7
   by_cases c8 : (rd l0 x8_1) < (rd l1 x8_1)
   rw [if_pos c8] at H
   have c8b0 := decide_eq_true c8
   clear c8
   obtain rfl := Option.some.inj H
   rotate_left
   rw [if_neg c8] at H
   have c8b0 := decide_eq_false c8
   clear c8
   obtain rfl := Option.some.inj H
   rotate_left
   ·rw [if_neg c6] at H
    exact absurd H (by simp)
   ·rw [if_neg c5] at H
    exact absurd H (by simp)
   ·rw [if_neg c4] at H
    exact absurd H (by simp)
   rw [if_neg c3] at H
   have c3b0 := decide_eq_false c3
   clear c3
   obtain rfl := Option.some.inj H
   rotate_left
   rotate_left 3
   ·go_wp2
    repeat (go_quiet (fail); try go_wp2)
    go_ret
    exact ⟨by first | rfl | (simp; done) | (simp [*]; done), by repeat (first | exact Drawn0.refl _ | apply Drawn0.step)⟩
   all_goals
    have p434 : 0 ≤ (x8_1 : Int) := od
    have q434 : x8_1 < (l0.length : Int) := od
    obtain ⟨ad434, e434, hx434_0⟩ := Kd.at_int HR0.out x8_1 p434 q434
    cases e434
    replace p434 := eq_true p434
    replace q434 := eq_true q434
    have p435 : 0 ≤ (x8_1 : Int) := od
    have q435 : x8_1 < (l1.length : Int) := od
    obtain ⟨ad435, e435, hx435_0⟩ := Kd.at_int HR1.out x8_1 p435 q435
    cases e435
    replace p435 := eq_true p435
    replace q435 := eq_true q435
   ·go_wp2
    repeat (go_quiet (fail); try go_wp2)
    go_roundg k1
    case measure => have := HK1.out; omega
    case rel => exact ⟨(wrap64 (x8_1 + 1)), (by first | rfl | (simp; done) | (simp [*]; done)), H', ⟨by have := HK1.out; omega⟩, by repeat (first | exact Drawn0.refl _ | apply Drawn0.step)⟩
   rotate_left 2
   all_goals
    have p436 : 0 ≤ (x8_1 : Int) := od
    have q436 : x8_1 < (l0.length : Int) := od
    obtain ⟨ad436, e436, hx436_0⟩ := Kd.at_int HR0.out x8_1 p436 q436
    obtain rfl : ad434 = ad436 := (by injection e436)
    replace p436 := eq_true p436
    replace q436 := eq_true q436
    have p437 : 0 ≤ (x8_1 : Int) := od
    have q437 : x8_1 < (l1.length : Int) := od
    obtain ⟨ad437, e437, hx437_0⟩ := Kd.at_int HR1.out x8_1 p437 q437
    obtain rfl : ad435 = ad437 := (by injection e437)
    replace p437 := eq_true p437
    replace q437 := eq_true q437
    go_wp2
    repeat (go_quiet (fail); try go_wp2)
    go_ret
    exact ⟨by first | rfl | (simp; done) | (simp [*]; done), by repeat (first | exact Drawn0.refl _ | apply Drawn0.step)⟩
/-! ### impl_compareMats: function 111 -/
def impl_compareMats.f (k : Nat) (a0_0 : Int) (a0_1 : Int) (a0_2 : Int) (a0_3 : Int) (a1_0 : Int) (a1_1 : Int) (a1_2 : Int) (a1_3 : Int) : Option (Int) := (impl_compareNumbers.f k (([a0_0, a0_1, a0_2, a0_3] : List Int)) (([a1_0, a1_1, a1_2, a1_3] : List Int))).bind fun t446 => (some t446)
theorem impl_compareMats.mono : ∀ a0 a1 a2 a3 a4 a5 a6 a7 k, LeO (impl_compareMats.f k a0 a1 a2 a3 a4 a5 a6 a7) (impl_compareMats.f (k + 1) a0 a1 a2 a3 a4 a5 a6 a7) := by
 intro a0 a1 a2 a3 a4 a5 a6 a7 k
 unfold impl_compareMats.f
 repeat' first
   | (with_reducible exact impl_compareNumbers.mono _ _ _)
   | (with_reducible exact LeO.refl _)
   | (with_reducible exact LeO.none _)
   | (with_reducible refine LeO.ite ?_ ?_)
   | (with_reducible refine LeO.bind ?_ (fun _ => ?_))
   | exact impl_compareNumbers.mono _ _ _
   | exact LeO.none _
   | refine LeO.ite ?_ ?_
   | refine LeO.bind ?_ (fun _ => ?_)
set_option maxHeartbeats 8000000 in
set_option maxRecDepth 100000 in
theorem impl_compareMats.calls (k : Nat) (a0_0 : Int) (a0_1 : Int) (a0_2 : Int) (a0_3 : Int) (a1_0 : Int) (a1_1 : Int) (a1_2 : Int) (a1_3 : Int) (r : Int) (w : World) (h : impl_compareMats.f k a0_0 a0_1 a0_2 a0_3 a1_0 a1_1 a1_2 a1_3 = some r) :
  Calls Tryz.prog 111 #[.agg #[.int .i64 a0_0, .int .i64 a0_1, .int .i64 a0_2, .int .i64 a0_3], .agg #[.int .i64 a1_0, .int .i64 a1_1, .int .i64 a1_2, .int .i64 a1_3]] w fun e w' => e = .returned (.int .i64 r) ∧ Below w.heap.size w w' := by
 have hu46 := Tryz.underlying46
 have HB := asd (Below.refl w.heap.size w)
 have H : ((impl_compareNumbers.f k (([a0_0, a0_1, a0_2, a0_3] : List Int)) (([a1_0, a1_1, a1_2, a1_3] : List Int))).bind fun t446 => (some t446)) = some r := h
 clear h
 obtain ⟨y440, hy440⟩ : ∃ y_ : List Int, y_ = (([a0_0, a0_1, a0_2, a0_3] : List Int)) := ⟨_, rfl⟩
 replace H : ((impl_compareNumbers.f k y440 (([a1_0, a1_1, a1_2, a1_3] : List Int))).bind fun t446 => (some t446)) = some r := by first | (rw [hy440]; with_reducible exact H) | (have H2_ := (Option.bind_some _ _).symm.trans H; rw [hy440]; with_reducible exact H2_) | (have H2_ := (Option.bind_some _ _).symm.trans H; with_reducible exact H2_) | with_reducible exact H | (rw [hy440]; exact H) | exact H
 have Ny440 := Aside0.mk hy440
 clear hy440
 obtain ⟨y443, hy443⟩ : ∃ y_ : List Int, y_ = (([a1_0, a1_1, a1_2, a1_3] : List Int)) := ⟨_, rfl⟩
 replace H : ((impl_compareNumbers.f k y440 y443).bind fun t446 => (some t446)) = some r := by first | (rw [hy443]; with_reducible exact H) | (have H2_ := (Option.bind_some _ _).symm.trans H; rw [hy443]; with_reducible exact H2_) | (have H2_ := (Option.bind_some _ _).symm.trans H; with_reducible exact H2_) | with_reducible exact H | (rw [hy443]; exact H) | exact H
 have Ny443 := Aside0.mk hy443
 clear hy443
 obtain ⟨t446, A3, H⟩ := ob H
 try dsimp only at H
 obtain rfl := Option.some.inj H
 go_enter Tryz.func111, Tryz.ntmps111
 go_wp2_with (first | ((with_reducible refine gd 2 rfl ?_); refine bx #[.int .i64 a0_0, .int .i64 a0_1, .int .i64 a0_2, .int .i64 a0_3] 46 ?_; intro gb438 hg w4 BK438 hb; have GE438 := ngw0 hg HB; replace HB := bS0 HB hb; clear hb hg) | ((with_reducible refine gd 3 rfl ?_); refine bx #[.int .i64 a1_0, .int .i64 a1_1, .int .i64 a1_2, .int .i64 a1_3] 46 ?_; intro gb439 hg w5 BK439 hb; have GE439 := ngw1 hg HB GE438; replace HB := bS1 HB GE438 hb; have NB438_439 := nlt hg BK438; have NB439_438 := nsy (nlt hg BK438); replace BK438 := bB BK438 hb; clear hb hg; have hnb6 := NB438_439.out; have hnc6 := NB439_438.out; obtain ⟨hcz7_0, hcz7_1, hcz7_2, hcz7_3, hfz7_0, hfz7_1, hfz7_2, hfz7_3⟩ := bz4 BK438) | ((with_reducible refine gd 13 rfl ?_); refine Kd.R_lit (Kd.int .i64) _ 2 ?hg (N := 13) ?hd (xs := ([a0_0, a0_1, a0_2, a0_3] : List Int)) (inner := [.int .i64 a0_0, .int .i64 a0_1, .int .i64 a0_2, .int .i64 a0_3]) (ok := fun _ => True) (okp := fun _ => True) ?hr ?hp (fun _ hk => hk) trivial (Below.refl _ _) (Nat.le_refl _) (by simp) ?_; (case hd => rfl); (case hg => rfl); (case hr => first | (go_simp; done) | (go_simp; rfl)); (case hp => exact (Reps.one (show Kd.M (Kd.int .i64) _ _ _ a0_0 [.int .i64 a0_0] from rfl) (Reps.one (show Kd.M (Kd.int .i64) _ _ _ a0_1 [.int .i64 a0_1] from rfl) (Reps.one (show Kd.M (Kd.int .i64) _ _ _ a0_2 [.int .i64 a0_2] from rfl) (Reps.one (show Kd.M (Kd.int .i64) _ _ _ a0_3 [.int .i64 a0_3] from rfl) (Reps.none _ _)))))); intro v441 w8 ho9 hb hg_ hnew_; clear hg_ hnew_; (first | rw [← Ny440.out] at ho9 | (simp only [Int.reduceToNat] at ho9; rw [← Ny440.out] at ho9)); have HO442 := asd (Kd.R_lower ho9 (bsz2 HB GE438 GE439)); replace BK438 := bB BK438 hb; replace BK439 := bB BK439 hb; replace HB := bS2 HB GE438 GE439 hb; clear hb ho9; obtain ⟨hcz10_0, hcz10_1, hcz10_2, hcz10_3, hfz10_0, hfz10_1, hfz10_2, hfz10_3⟩ := bz4 BK439) | ((with_reducible refine gd 22 rfl ?_); refine Kd.R_lit (Kd.int .i64) _ 2 ?hg (N := 22) ?hd (xs := ([a1_0, a1_1, a1_2, a1_3] : List Int)) (inner := [.int .i64 a1_0, .int .i64 a1_1, .int .i64 a1_2, .int .i64 a1_3]) (ok := fun _ => True) (okp := fun _ => True) ?hr ?hp (fun _ hk => hk) trivial (Below.refl _ _) (Nat.le_refl _) (by simp) ?_; (case hd => rfl); (case hg => rfl); (case hr => first | (go_simp; done) | (go_simp; rfl)); (case hp => exact (Reps.one (show Kd.M (Kd.int .i64) _ _ _ a1_0 [.int .i64 a1_0] from rfl) (Reps.one (show Kd.M (Kd.int .i64) _ _ _ a1_1 [.int .i64 a1_1] from rfl) (Reps.one (show Kd.M (Kd.int .i64) _ _ _ a1_2 [.int .i64 a1_2] from rfl) (Reps.one (show Kd.M (Kd.int .i64) _ _ _ a1_3 [.int .i64 a1_3] from rfl) (Reps.none _ _)))))); intro v444 w11 ho12 hb hg_ hnew_; clear hg_ hnew_; (first | rw [← Ny443.out] at ho12 | (simp only [Int.reduceToNat] at ho12; rw [← Ny443.out] at ho12)); have HO445 := asd (Kd.R_lower (Kd.R_new' ho12 (Kd.R_lt (kr HO442))) (bsz2 HB GE438 GE439)); replace HO442 := asd (Kd.R_elder' (kr HO442) (Kd.R_base ho12) hb); replace BK438 := bB BK438 hb; replace BK439 := bB BK439 hb; replace HB := bS2 HB GE438 GE439 hb; clear hb ho12; obtain ⟨Ao13, co13, eo13⟩ := Kd.R_slice HO442.out; subst eo13; obtain ⟨Ao14, co14, eo14⟩ := Kd.R_slice HO445.out; subst eo14) | ((with_reducible refine gate_callee (f := 133) rfl ?_); refine gl 23 Tryz.func133 #[.slice Ao13 y440.length co13, .slice Ao14 y443.length co14] ?_; (with_reducible refine (impl_compareNumbers.calls _ _ _ _ _ _ _ _ _ ?side1 ?side2 ?side3 ?side4 A3.out).mono ?_); (case side1 => exact ks (Kd.R_reads' HO442.out).2.2); (case side2 => exact (Kd.R_reads' HO442.out).2.1); (case side3 => exact ks (Kd.R_reads' HO445.out).2.2); (case side4 => exact (Kd.R_reads' HO445.out).2.1); rintro e w' ⟨rfl, ⟨nd, rfl⟩⟩; refine ⟨_, rfl, ?_⟩))
 go_ret
 exact er (bbw2 HB GE438 GE439)
/-! ### impl_compareVecs: function 112 -/
def impl_compareVecs.f (k : Nat) (a0_0 : Int) (a0_1 : Int) (a1_0 : Int) (a1_1 : Int) : Option (Int) := (impl_compareNumbers.f k (([a0_0, a0_1] : List Int)) (([a1_0, a1_1] : List Int))).bind fun t455 => (some t455)
theorem impl_compareVecs.mono : ∀ a0 a1 a2 a3 k, LeO (impl_compareVecs.f k a0 a1 a2 a3) (impl_compareVecs.f (k + 1) a0 a1 a2 a3) := by
 intro a0 a1 a2 a3 k
 unfold impl_compareVecs.f
 repeat' first
   | (with_reducible exact impl_compareNumbers.mono _ _ _)
   | (with_reducible exact LeO.refl _)
   | (with_reducible exact LeO.none _)
   | (with_reducible refine LeO.ite ?_ ?_)
   | (with_reducible refine LeO.bind ?_ (fun _ => ?_))
   | exact impl_compareNumbers.mono _ _ _
   | exact LeO.none _
   | refine LeO.ite ?_ ?_
   | refine LeO.bind ?_ (fun _ => ?_)
set_option maxHeartbeats 8000000 in
set_option maxRecDepth 100000 in
theorem impl_compareVecs.calls (k : Nat) (a0_0 : Int) (a0_1 : Int) (a1_0 : Int) (a1_1 : Int) (r : Int) (w : World) (h : impl_compareVecs.f k a0_0 a0_1 a1_0 a1_1 = some r) :
  Calls Tryz.prog 112 #[.agg #[.int .i64 a0_0, .int .i64 a0_1], .agg #[.int .i64 a1_0, .int .i64 a1_1]] w fun e w' => e = .returned (.int .i64 r) ∧ Below w.heap.size w w' := by
 have hu38 := Tryz.underlying38
 have HB := asd (Below.refl w.heap.size w)
 have H : ((impl_compareNumbers.f k (([a0_0, a0_1] : List Int)) (([a1_0, a1_1] : List Int))).bind fun t455 => (some t455)) = some r := h
 clear h
 obtain ⟨y449, hy449⟩ : ∃ y_ : List Int, y_ = (([a0_0, a0_1] : List Int)) := ⟨_, rfl⟩
 replace H : ((impl_compareNumbers.f k y449 (([a1_0, a1_1] : List Int))).bind fun t455 => (some t455)) = some r := by first | (rw [hy449]; with_reducible exact H) | (have H2_ := (Option.bind_some _ _).symm.trans H; rw [hy449]; with_reducible exact H2_) | (have H2_ := (Option.bind_some _ _).symm.trans H; with_reducible exact H2_) | with_reducible exact H | (rw [hy449]; exact H) | exact H
 have Ny449 := Aside0.mk hy449
 clear hy449
 obtain ⟨y452, hy452⟩ : ∃ y_ : List Int, y_ = (([a1_0, a1_1] : List Int)) := ⟨_, rfl⟩
 replace H : ((impl_compareNumbers.f k y449 y452).bind fun t455 => (some t455)) = some r := by first | (rw [hy452]; with_reducible exact H) | (have H2_ := (Option.bind_some _ _).symm.trans H; rw [hy452]; with_reducible exact H2_) | (have H2_ := (Option.bind_some _ _).symm.trans H; with_reducible exact H2_) | with_reducible exact H | (rw [hy452]; exact H) | exact H
 have Ny452 := Aside0.mk hy452
 clear hy452
 obtain ⟨t455, A3, H⟩ := ob H
 try dsimp only at H
 obtain rfl := Option.some.inj H
 go_enter Tryz.func112, Tryz.ntmps112
 go_wp2_with (first | ((with_reducible refine gd 2 rfl ?_); refine bx #[.int .i64 a0_0, .int .i64 a0_1] 38 ?_; intro gb447 hg w4 BK447 hb; have GE447 := ngw0 hg HB; replace HB := bS0 HB hb; clear hb hg) | ((with_reducible refine gd 3 rfl ?_); refine bx #[.int .i64 a1_0, .int .i64 a1_1] 38 ?_; intro gb448 hg w5 BK448 hb; have GE448 := ngw1 hg HB GE447; replace HB := bS1 HB GE447 hb; have NB447_448 := nlt hg BK447; have NB448_447 := nsy (nlt hg BK447); replace BK447 := bB BK447 hb; clear hb hg; have hnb6 := NB447_448.out; have hnc6 := NB448_447.out; obtain ⟨hcz7_0, hcz7_1, hfz7_0, hfz7_1⟩ := bz2 BK447) | ((with_reducible refine gd 9 rfl ?_); refine Kd.R_lit (Kd.int .i64) _ 2 ?hg (N := 9) ?hd (xs := ([a0_0, a0_1] : List Int)) (inner := [.int .i64 a0_0, .int .i64 a0_1]) (ok := fun _ => True) (okp := fun _ => True) ?hr ?hp (fun _ hk => hk) trivial (Below.refl _ _) (Nat.le_refl _) (by simp) ?_; (case hd => rfl); (case hg => rfl); (case hr => first | (go_simp; done) | (go_simp; rfl)); (case hp => exact (Reps.one (show Kd.M (Kd.int .i64) _ _ _ a0_0 [.int .i64 a0_0] from rfl) (Reps.one (show Kd.M (Kd.int .i64) _ _ _ a0_1 [.int .i64 a0_1] from rfl) (Reps.none _ _)))); intro v450 w8 ho9 hb hg_ hnew_; clear hg_ hnew_; (first | rw [← Ny449.out] at ho9 | (simp only [Int.reduceToNat] at ho9; rw [← Ny449.out] at ho9)); have HO451 := asd (Kd.R_lower ho9 (bsz2 HB GE447 GE448)); replace BK447 := bB BK447 hb; replace BK448 := bB BK448 hb; replace HB := bS2 HB GE447 GE448 hb; clear hb ho9; obtain ⟨hcz10_0, hcz10_1, hfz10_0, hfz10_1⟩ := bz2 BK448) | ((with_reducible refine gd 14 rfl ?_); refine Kd.R_lit (Kd.int .i64) _ 2 ?hg (N := 14) ?hd (xs := ([a1_0, a1_1] : List Int)) (inner := [.int .i64 a1_0, .int .i64 a1_1]) (ok := fun _ => True) (okp := fun _ => True) ?hr ?hp (fun _ hk => hk) trivial (Below.refl _ _) (Nat.le_refl _) (by simp) ?_; (case hd => rfl); (case hg => rfl); (case hr => first | (go_simp; done) | (go_simp; rfl)); (case hp => exact (Reps.one (show Kd.M (Kd.int .i64) _ _ _ a1_0 [.int .i64 a1_0] from rfl) (Reps.one (show Kd.M (Kd.int .i64) _ _ _ a1_1 [.int .i64 a1_1] from rfl) (Reps.none _ _)))); intro v453 w11 ho12 hb hg_ hnew_; clear hg_ hnew_; (first | rw [← Ny452.out] at ho12 | (simp only [Int.reduceToNat] at ho12; rw [← Ny452.out] at ho12)); have HO454 := asd (Kd.R_lower (Kd.R_new' ho12 (Kd.R_lt (kr HO451))) (bsz2 HB GE447 GE448)); replace HO451 := asd (Kd.R_elder' (kr HO451) (Kd.R_base ho12) hb); replace BK447 := bB BK447 hb; replace BK448 := bB BK448 hb; replace HB := bS2 HB GE447 GE448 hb; clear hb ho12; obtain ⟨Ao13, co13, eo13⟩ := Kd.R_slice HO451.out; subst eo13; obtain ⟨Ao14, co14, eo14⟩ := Kd.R_slice HO454.out; subst eo14) | ((with_reducible refine gate_callee (f := 133) rfl ?_); refine gl 15 Tryz.func133 #[.slice Ao13 y449.length co13, .slice Ao14 y452.length co14] ?_; (with_reducible refine (impl_compareNumbers.calls _ _ _ _ _ _ _ _ _ ?side1 ?side2 ?side3 ?side4 A3.out).mono ?_); (case side1 => exact ks (Kd.R_reads' HO451.out).2.2); (case side2 => exact (Kd.R_reads' HO451.out).2.1); (case side3 => exact ks (Kd.R_reads' HO454.out).2.2); (case side4 => exact (Kd.R_reads' HO454.out).2.1); rintro e w' ⟨rfl, ⟨nd, rfl⟩⟩; refine ⟨_, rfl, ?_⟩))
 go_ret
 exact er (bbw2 HB GE447 GE448)
/-! ### impl_compareMotions: function 75 -/
def impl_compareMotions.f (k : Nat) (a0_0 : Int) (a0_1 : Int) (a0_2 : Int) (a0_3 : Int) (a0_4 : Int) (a0_5 : Int) (a1_0 : Int) (a1_1 : Int) (a1_2 : Int) (a1_3 : Int) (a1_4 : Int) (a1_5 : Int) : Option (Int) := (impl_compareMats.f k a0_0 a0_1 a0_2 a0_3 a1_0 a1_1 a1_2 a1_3).bind fun t458 => (if t458 = 0 then ((impl_compareVecs.f k a0_4 a0_5 a1_4 a1_5).bind fun t459 => (some t459)) else (some t458))
theorem impl_compareMotions.mono : ∀ a0 a1 a2 a3 a4 a5 a6 a7 a8 a9 a10 a11 k, LeO (impl_compareMotions.f k a0 a1 a2 a3 a4 a5 a6 a7 a8 a9 a10 a11) (impl_compareMotions.f (k + 1) a0 a1 a2 a3 a4 a5 a6 a7 a8 a9 a10 a11) := by
 intro a0 a1 a2 a3 a4 a5 a6 a7 a8 a9 a10 a11 k
 unfold impl_compareMotions.f
 repeat' first
   | (with_reducible exact impl_compareMats.mono _ _ _ _ _ _ _ _ _)
   | (with_reducible exact impl_compareVecs.mono _ _ _ _ _)
   | (with_reducible exact LeO.refl _)
   | (with_reducible exact LeO.none _)
   | (with_reducible refine LeO.ite ?_ ?_)
   | (with_reducible refine LeO.bind ?_ (fun _ => ?_))
   | exact impl_compareMats.mono _ _ _ _ _ _ _ _ _
   | exact impl_compareVecs.mono _ _ _ _ _
   | exact LeO.none _
   | refine LeO.ite ?_ ?_
   | refine LeO.bind ?_ (fun _ => ?_)
set_option maxHeartbeats 8000000 in
set_option maxRecDepth 100000 in
theorem impl_compareMotions.calls (k : Nat) (a0_0 : Int) (a0_1 : Int) (a0_2 : Int) (a0_3 : Int) (a0_4 : Int) (a0_5 : Int) (a1_0 : Int) (a1_1 : Int) (a1_2 : Int) (a1_3 : Int) (a1_4 : Int) (a1_5 : Int) (r : Int) (w : World) (h : impl_compareMotions.f k a0_0 a0_1 a0_2 a0_3 a0_4 a0_5 a1_0 a1_1 a1_2 a1_3 a1_4 a1_5 = some r) :
  Calls Tryz.prog 75 #[.agg #[.int .i64 a0_0, .int .i64 a0_1, .int .i64 a0_2, .int .i64 a0_3, .int .i64 a0_4, .int .i64 a0_5], .agg #[.int .i64 a1_0, .int .i64 a1_1, .int .i64 a1_2, .int .i64 a1_3, .int .i64 a1_4, .int .i64 a1_5]] w fun e w' => e = .returned (.int .i64 r) ∧ Below w.heap.size w w' := by
 have hu48 := Tryz.underlying48
 have hu46 := Tryz.underlying46
 have hu38 := Tryz.underlying38
 have HB := asd (Below.refl w.heap.size w)
 have H : ((impl_compareMats.f k a0_0 a0_1 a0_2 a0_3 a1_0 a1_1 a1_2 a1_3).bind fun t458 => (if t458 = 0 then ((impl_compareVecs.f k a0_4 a0_5 a1_4 a1_5).bind fun t459 => (some t459)) else (some t458))) = some r := h
 clear h
 obtain ⟨t458, A3, H⟩ := ob H
 try dsimp only at H
 by_cases c4 : t458 = 0
 ·rw [if_pos c4] at H
  have c4b0 : (t458 == 0) = true := beq_iff_eq.mpr c4
  have c4b1 : (t458 != 0) = false := bne_eq_false_iff_eq.mpr c4
  clear c4
  obtain ⟨t459, A5, H⟩ := ob H
  try dsimp only at H
  obtain rfl := Option.some.inj H
  go_enter Tryz.func75, Tryz.ntmps75
  go_wp2_with (first | ((with_reducible refine gd 2 rfl ?_); refine bx #[.int .i64 a0_0, .int .i64 a0_1, .int .i64 a0_2, .int .i64 a0_3, .int .i64 a0_4, .int .i64 a0_5] 48 ?_; intro gb456 hg w6 BK456 hb; have GE456 := ngw0 hg HB; replace HB := bS0 HB hb; clear hb hg) | ((with_reducible refine gd 3 rfl ?_); refine bx #[.int .i64 a1_0, .int .i64 a1_1, .int .i64 a1_2, .int .i64 a1_3, .int .i64 a1_4, .int .i64 a1_5] 48 ?_; intro gb457 hg w7 BK457 hb; have GE457 := ngw1 hg HB GE456; replace HB := bS1 HB GE456 hb; have NB456_457 := nlt hg BK456; have NB457_456 := nsy (nlt hg BK456); replace BK456 := bB BK456 hb; clear hb hg; have hnb8 := NB456_457.out; have hnc8 := NB457_456.out; obtain ⟨hcz9_0, hcz9_1, hcz9_2, hcz9_3, hcz9_4, hcz9_5, hfz9_0, hfz9_1, hfz9_2, hfz9_3, hfz9_4, hfz9_5⟩ := bz6 BK456; obtain ⟨hcz10_0, hcz10_1, hcz10_2, hcz10_3, hcz10_4, hcz10_5, hfz10_0, hfz10_1, hfz10_2, hfz10_3, hfz10_4, hfz10_5⟩ := bz6 BK457) | ((with_reducible refine gate_callee (f := 111) rfl ?_); refine gl 10 Tryz.func111 #[.agg #[.int .i64 a0_0, .int .i64 a0_1, .int .i64 a0_2, .int .i64 a0_3], .agg #[.int .i64 a1_0, .int .i64 a1_1, .int .i64 a1_2, .int .i64 a1_3]] ?_; (with_reducible refine (impl_compareMats.calls _ _ _ _ _ _ _ _ _ _ _ A3.out).mono ?_); rintro e w11 ⟨rfl, hb⟩; refine ⟨_, rfl, ?_⟩; replace BK456 := bB BK456 hb; replace BK457 := bB BK457 hb; replace HB := bS2 HB GE456 GE457 hb; (try clear hb); obtain ⟨hcz12_0, hcz12_1, hcz12_2, hcz12_3, hcz12_4, hcz12_5, hfz12_0, hfz12_1, hfz12_2, hfz12_3, hfz12_4, hfz12_5⟩ := bz6 BK456; obtain ⟨hcz13_0, hcz13_1, hcz13_2, hcz13_3, hcz13_4, hcz13_5, hfz13_0, hfz13_1, hfz13_2, hfz13_3, hfz13_4, hfz13_5⟩ := bz6 BK457) | ((with_reducible refine gate_callee (f := 112) rfl ?_); refine gl 18 Tryz.func112 #[.agg #[.int .i64 a0_4, .int .i64 a0_5], .agg #[.int .i64 a1_4, .int .i64 a1_5]] ?_; (with_reducible refine (impl_compareVecs.calls _ _ _ _ _ _ _ A5.out).mono ?_); rintro e w14 ⟨rfl, hb⟩; refine ⟨_, rfl, ?_⟩; replace BK456 := bB BK456 hb; replace BK457 := bB BK457 hb; replace HB := bS2 HB GE456 GE457 hb; (try clear hb)))
  go_ret
  exact er (bbw2 HB GE456 GE457)
 ·rw [if_neg c4] at H
  have c4b0 : (t458 == 0) = false := beq_eq_false_iff_ne.mpr c4
  have c4b1 : (t458 != 0) = true := bne_iff_ne.mpr c4
  obtain rfl := Option.some.inj H
  go_enter Tryz.func75, Tryz.ntmps75
  go_wp2_with (first | ((with_reducible refine gd 2 rfl ?_); refine bx #[.int .i64 a0_0, .int .i64 a0_1, .int .i64 a0_2, .int .i64 a0_3, .int .i64 a0_4, .int .i64 a0_5] 48 ?_; intro gb456 hg w15 BK456 hb; have GE456 := ngw0 hg HB; replace HB := bS0 HB hb; clear hb hg) | ((with_reducible refine gd 3 rfl ?_); refine bx #[.int .i64 a1_0, .int .i64 a1_1, .int .i64 a1_2, .int .i64 a1_3, .int .i64 a1_4, .int .i64 a1_5] 48 ?_; intro gb457 hg w16 BK457 hb; have GE457 := ngw1 hg HB GE456; replace HB := bS1 HB GE456 hb; have NB456_457 := nlt hg BK456; have NB457_456 := nsy (nlt hg BK456); replace BK456 := bB BK456 hb; clear hb hg; have hnb17 := NB456_457.out; have hnc17 := NB457_456.out; obtain ⟨hcz18_0, hcz18_1, hcz18_2, hcz18_3, hcz18_4, hcz18_5, hfz18_0, hfz18_1, hfz18_2, hfz18_3, hfz18_4, hfz18_5⟩ := bz6 BK456; obtain ⟨hcz19_0, hcz19_1, hcz19_2, hcz19_3, hcz19_4, hcz19_5, hfz19_0, hfz19_1, hfz19_2, hfz19_3, hfz19_4, hfz19_5⟩ := bz6 BK457) | ((with_reducible refine gate_callee (f := 111) rfl ?_); refine gl 10 Tryz.func111 #[.agg #[.int .i64 a0_0, .int .i64 a0_1, .int .i64 a0_2, .int .i64 a0_3], .agg #[.int .i64 a1_0, .int .i64 a1_1, .int .i64 a1_2, .int .i64 a1_3]] ?_; (with_reducible refine (impl_compareMats.calls _ _ _ _ _ _ _ _ _ _ _ A3.out).mono ?_); rintro e w20 ⟨rfl, hb⟩; refine ⟨_, rfl, ?_⟩; replace BK456 := bB BK456 hb; replace BK457 := bB BK457 hb; replace HB := bS2 HB GE456 GE457 hb; (try clear hb)))
  go_ret
  exact er (bbw2 HB GE456 GE457)

attribute [local go_sem high] eqA38
/-! ### mapMo: function 99999 -/
theorem mapMo.wide : (match Tryz.prog.underlying 48 with | some (.array _ _) | some (.struct _) => true | _ => false) = true := by rw [Tryz.underlying48]
set_option maxRecDepth 100000 in
theorem mapMo.law : Go.Maps.Keyed Tryz.prog 48 := Go.Maps.Keyed.of_law (deep_law_laid (P := Tryz.prog) (by kernel_rfl) (m := 3) (by omega) (of_decide_eq_true (by kernel_rfl)) (by kernel_rfl) mapMo.wide)
def mapMo.enc (x : S48) : Value := .agg #[.int .i64 x.f0.f0, .int .i64 x.f0.f1, .int .i64 x.f0.f2, .int .i64 x.f0.f3, .int .i64 x.f1.f0, .int .i64 x.f1.f1]
def mapMo.lits (x : S48) : List Lit := [.int .i64 x.f0.f0, .int .i64 x.f0.f1, .int .i64 x.f0.f2, .int .i64 x.f0.f3, .int .i64 x.f1.f0, .int .i64 x.f1.f1]
/-- Do a motion's numbers fit? -/
def mapMo.wf (x : S48) : Bool := (mapMo.lits x).all Lit.wf
def mapMo.kl (x : S48) : Lit := .string (keyBytes (mapMo.lits x))
theorem mapMo.hkey (x : S48) (h : mapMo.wf x = true) : keyOf Tryz.prog 48 (mapMo.enc x) = some (mapMo.kl x) := by
 simp only [mapMo.wf, mapMo.lits, List.all_cons, List.all_nil, Bool.and_true, Bool.and_eq_true] at h
 obtain ⟨h0, h1, h2, h3, h4, h5⟩ := h
 have k2 : ∀ (d : Nat) (n : Int), (Lit.int .i64 n).wf = true → Tryz.prog.keyLits (d + 1) 2 [.int .i64 n] = some [.int .i64 n] := fun d n hn => by
  simp [Program.keyLits, Tryz.underlying2, hn]
 have k34 : ∀ (d : Nat) (a b : Int), (Lit.int .i64 a).wf = true → (Lit.int .i64 b).wf = true → Tryz.prog.keyLits (d + 2) 38 [.int .i64 a, .int .i64 b] = some [.int .i64 a, .int .i64 b] := fun d a b ha hb => by
  unfold Program.keyLits
  rw [Tryz.underlying38]
  have c : Tryz.prog.cellsOf 38 = 2 := by kernel_rfl
  have c2 : Tryz.prog.cellsOf 2 = 1 := by kernel_rfl
  simp [c, c2, k2, ha, hb]
 have k33 : ∀ (d : Nat) (a b c e : Int), (Lit.int .i64 a).wf = true → (Lit.int .i64 b).wf = true → (Lit.int .i64 c).wf = true → (Lit.int .i64 e).wf = true → Tryz.prog.keyLits (d + 2) 46 [.int .i64 a, .int .i64 b, .int .i64 c, .int .i64 e] = some [.int .i64 a, .int .i64 b, .int .i64 c, .int .i64 e] := fun d a b c e ha hb hc he => by
  unfold Program.keyLits
  rw [Tryz.underlying46]
  have c' : Tryz.prog.cellsOf 46 = 4 := by kernel_rfl
  have c2 : Tryz.prog.cellsOf 2 = 1 := by kernel_rfl
  simp [c', c2, k2, ha, hb, hc, he]
 have hf : (mapMo.enc x).formed Tryz.prog 48 = true := by
  simp [Value.formed, mapMo.enc, Tryz.underlying48, show Tryz.prog.cellsOf 48 = 6 by kernel_rfl]
 have hk : Tryz.prog.keyType 48 = true := by kernel_rfl
 have hs : ∃ m, Tryz.prog.types.size = m + 2 := ⟨Tryz.prog.types.size - 2, by have : (2 : Nat) ≤ Tryz.prog.types.size := of_decide_eq_true (by kernel_rfl); omega⟩
 obtain ⟨m, hm⟩ := hs
 unfold keyOf
 rw [Tryz.underlying48, hm]
 dsimp only
 rw [hk, hf]
 unfold Program.keyLits
 rw [Tryz.underlying48]
 have c : Tryz.prog.cellsOf 48 = 6 := by kernel_rfl
 have c33 : Tryz.prog.cellsOf 46 = 4 := by kernel_rfl
 have c34 : Tryz.prog.cellsOf 38 = 2 := by kernel_rfl
 simp [mapMo.enc, Value.cells, c, c33, c34, k33, k34, h0, h1, h2, h3, h4, h5, mapMo.kl, mapMo.lits]
/-- Are two motions the same? -/
def mapMo.eqB (x y : S48) : Bool := x.f0.f0 == y.f0.f0 && (x.f0.f1 == y.f0.f1 && (x.f0.f2 == y.f0.f2 && (x.f0.f3 == y.f0.f3 && (x.f1.f0 == y.f1.f0 && x.f1.f1 == y.f1.f1))))
theorem mapMo.eqB_iff (x y : S48) : mapMo.eqB x y = true ↔ x = y := by
 obtain ⟨⟨a, b, c, d⟩, e, f⟩ := x
 obtain ⟨⟨a', b', c', d'⟩, e', f'⟩ := y
 simp only [mapMo.eqB, Bool.and_eq_true, beq_iff_eq]
 constructor
 ·rintro ⟨rfl, rfl, rfl, rfl, rfl, rfl⟩; rfl
 ·intro h; cases h; exact ⟨rfl, rfl, rfl, rfl, rfl, rfl⟩
theorem mapMo.enc_inj {x y : S48} (h : mapMo.enc x = mapMo.enc y) : x = y := by
 obtain ⟨⟨a, b, c, d⟩, e, f⟩ := x
 obtain ⟨⟨a', b', c', d'⟩, e', f'⟩ := y
 simp only [mapMo.enc, Value.agg.injEq, Array.mk.injEq, List.cons.injEq, Value.int.injEq, true_and, and_true] at h
 obtain ⟨rfl, rfl, rfl, rfl, rfl, rfl⟩ := h
 rfl
theorem mapMo.kl_inj {x y : S48} (hx : mapMo.wf x = true) (hy : mapMo.wf y = true) (h : mapMo.kl x = mapMo.kl y) : x = y := by
 have e1 := mapMo.hkey x hx
 have e2 := mapMo.hkey y hy
 rw [← h] at e2
 exact mapMo.enc_inj (mapMo.law.inj e1 e2)
/-- What the map reads as. -/
def mapMo.setD (xs : List S48) (D : DataW Unit) : DataW Unit := xs.foldl (fun D x => D.put (mapMo.kl x) (.lit (.bool true))) D
theorem mapMo.setD_at (y : S48) (hy : mapMo.wf y = true) : ∀ (xs : List S48) (D : DataW Unit) (b : Bool), (∀ x ∈ xs, mapMo.wf x = true) → Go.Maps.IsMap D → D.atKey (mapMo.kl y) (.lit (.bool false)) = .lit (.bool b) →
  (mapMo.setD xs D).atKey (mapMo.kl y) (.lit (.bool false)) = .lit (.bool (b || xs.any fun x => mapMo.eqB x y))
 | [], D, b, _, _, h => by simpa [mapMo.setD] using h
 | x :: xs, D, b, hw, hD, h => by
  have hx := hw x (List.mem_cons_self)
  have ih := mapMo.setD_at y hy xs (D.put (mapMo.kl x) (.lit (.bool true))) (b || mapMo.eqB x y) (fun z hz => hw z (List.mem_cons_of_mem _ hz)) (hD.put _ _) (by
   by_cases e : x = y
   ·subst e
    rw [Go.Maps.atKey_put_same hD (mapMo.law.key (mapMo.hkey x hx))]
    rw [(mapMo.eqB_iff x x).2 rfl, Bool.or_true]
   ·rw [Go.Maps.atKey_put_other (fun g => e (mapMo.kl_inj hx hy g.symm)), h]
    have : mapMo.eqB x y = false := Bool.eq_false_iff.2 (fun g => e ((mapMo.eqB_iff x y).1 g))
    rw [this, Bool.or_false])
  rw [List.any_cons, ← Bool.or_assoc]
  exact ih
/-- Block B is a map of the call's own whose keys are the motions of a list. -/
def mapMo.MS (w : World) (B : Nat) (xs : List S48) : Prop := (∀ x ∈ xs, mapMo.wf x = true) ∧ w.ownsMap Tryz.prog 48 (plainElem (H := Unit) Tryz.prog 4) B xs.length (mapMo.setD xs (.map []))
set_option maxRecDepth 100000 in
theorem mapMo.plain_inv {v : Value} {b : Bool} {ps : List MemPlace} (h : plainElem (H := Unit) Tryz.prog 4 v = some (.lit (.bool b), ps)) : v = .bool b := by
 unfold plainElem at h
 rw [Tryz.underlying4] at h
 cases v <;> simp at h
 rw [h.1]
theorem mapMo.MS_run {w : World} {B : Nat} {xs : List S48} (h : mapMo.MS w B xs) (y : S48) (hy : mapMo.wf y = true) :
  (Instr.lookup 79 (.map (some B)) (mapMo.enc y) false).run Tryz.prog w = .ok (.bool (xs.any fun x => mapMo.eqB x y)) w := by
 obtain ⟨v, ps, hrun, hv⟩ := h.2.lookup (e := 4) mapMo.law Tryz.underlying79 (z := .bool false) (by kernel_rfl) (plainElem_bool Tryz.underlying4 false) (mapMo.hkey y hy)
 rw [mapMo.setD_at y hy xs (.map []) false h.1 Go.Maps.isMap_empty rfl, Bool.false_or] at hv
 rw [hrun, mapMo.plain_inv hv]
theorem mapMo.MS_ne {w : World} {B : Nat} {xs : List S48} (h : mapMo.MS w B xs) {g : Nat} {cs : Array Value} {t : TypeId} {p : Nat × Nat} (b : w.heap[g]? = some (.cells cs t p)) : B ≠ g := by
 obtain ⟨-, es, clock, hb, -⟩ := h
 rintro rfl
 rw [hb] at b
 cases b
theorem mapMo.MS_move {w w1 : World} {B : Nat} {xs : List S48} (h : mapMo.MS w B xs) (hm : w1.heap[B]? = w.heap[B]?) : mapMo.MS w1 B xs := by
 obtain ⟨h0, es, clock, hb, r⟩ := h
 exact ⟨h0, es, clock, hm.trans hb, r⟩
theorem mapMo.MS_below {w w1 : World} {B : Nat} {xs : List S48} (h : mapMo.MS w B xs) (hb : Below w.heap.size w w1) : mapMo.MS w1 B xs := mapMo.MS_move h (hb.block B h.2.lt)
theorem mapMo.MS_alloc {w : World} {B : Nat} {xs : List S48} (h : mapMo.MS w B xs) (o : Obj) : mapMo.MS (w.alloc o) B xs := mapMo.MS_below h (below_alloc (Below.refl _ _) _)
theorem mapMo.MS_drewN {w : World} {B : Nat} {xs : List S48} (h : mapMo.MS w B xs) (n : Nat) : mapMo.MS (w.drewN n) B xs := h
theorem mapMo.MS_drew {w : World} {B : Nat} {xs : List S48} (h : mapMo.MS w B xs) : mapMo.MS w.drew B xs := h
theorem mapMo.MS_set {w : World} {B : Nat} {xs : List S48} {g j : Nat} {v : Value} (h : mapMo.MS w B xs) (hne : B ≠ g) : mapMo.MS (w.setCell ⟨g, j, none⟩ v) B xs := mapMo.MS_move h (Below.heap_setCell w _ v B hne)
theorem mapMo.R_map {α : Type} {d : Kd α} {e : Nat} {w w1 : World} {base : Nat} {ok : Nat → Prop} {v : Value} {l : List α} (h : d.R e w base ok v l) {B : Nat} {xs : List S48} (hM : mapMo.MS w B xs) (hg : w.grownBy w1 (some B)) : d.R e w1 base ok v l :=
 Kd.R_mono (Kd.R_move (Kd.R_bound h) (fun k hk => by
  obtain ⟨_, _, hlt, _, _, cs, hc⟩ := hk
  exact hg.block k hlt (fun e => (mapMo.MS_ne hM hc) (Option.some.inj e).symm))) (fun _ hk => hk.1)
/-- Is a motion among the map's keys? (Its numbers must fit.) -/
def mapMo.has (_ : Nat) (xs : List S48) (y0 y1 y2 y3 y4 y5 : Int) : Option Bool := if mapMo.wf ⟨⟨y0, y1, y2, y3⟩, ⟨y4, y5⟩⟩ = true then some (xs.any fun x => mapMo.eqB x ⟨⟨y0, y1, y2, y3⟩, ⟨y4, y5⟩⟩) else none
theorem mapMo.has_mono : ∀ (xs : List S48) (y0 y1 y2 y3 y4 y5 : Int) (k : Nat), LeO (mapMo.has k xs y0 y1 y2 y3 y4 y5) (mapMo.has (k + 1) xs y0 y1 y2 y3 y4 y5) := fun _ _ _ _ _ _ _ _ => LeO.refl _
theorem mapMo.has_inv {k : Nat} {xs : List S48} {y0 y1 y2 y3 y4 y5 : Int} {r : Bool} (A : mapMo.has k xs y0 y1 y2 y3 y4 y5 = some r) : mapMo.wf ⟨⟨y0, y1, y2, y3⟩, ⟨y4, y5⟩⟩ = true ∧ (xs.any fun x => mapMo.eqB x ⟨⟨y0, y1, y2, y3⟩, ⟨y4, y5⟩⟩) = r := by
 unfold mapMo.has at A
 by_cases h : mapMo.wf ⟨⟨y0, y1, y2, y3⟩, ⟨y4, y5⟩⟩ = true
 ·rw [if_pos h] at A; exact ⟨h, Option.some.inj A⟩
 ·rw [if_neg h] at A; cases A
theorem mapMo.blk_put {w w1 : World} {g : Nat} {cs : Array Value} {t : TypeId} (h : w.heap[g]? = some (.cells cs t (0, 0))) {B : Nat} {xs : List S48} (hM : mapMo.MS w B xs) (hg : w.grownBy w1 (some B)) : w1.heap[g]? = some (.cells cs t (0, 0)) :=
 (hg.block g (blk_lt h) (fun e => mapMo.MS_ne hM h (Option.some.inj e).symm)).trans h
theorem mapMo.below_put {w W w1 : World} {g : Nat} (h : Below w.heap.size w W) (hB : w.heap.size ≤ g) (hg : W.grownBy w1 (some g)) : Below w.heap.size w w1 :=
 h.trans ⟨hg.os, hg.tape, hg.output, hg.size, fun i hi => hg.block i (Nat.lt_of_lt_of_le hi h.size) (fun e => by have := Option.some.inj e; omega)⟩
section
variable {ops : Array Oper} {rest : List Oper} {o : Oper} {a : Act} {Q : Exit → Act → World → Prop} {Kc : Act → World → Prop} {W : World}
theorem mapMo.make_event (hgd : o.guard = none) {N : Tmp} (_hd : o.dst = some N) (hrun : (execOp a.eval o).run Tryz.prog W = .ok (.value (.map (some W.heap.size))) (W.alloc (.map #[] 0)))
  (h : ∀ g, g = W.heap.size → ∀ w1, mapMo.MS w1 g [] → Below W.heap.size W w1 → wpList Tryz.prog ops Q rest (a.put o.dst (.map (some g))) w1) : wpList Tryz.prog ops Q (o :: rest) a W :=
 Kd.event_run hgd hrun (h _ rfl _ ⟨fun _ hx => absurd hx (by simp), World.ownsMap_made W _ _ _⟩ (below_alloc (Below.refl _ _) _))
theorem mapMo.put_event (hgd : o.guard = none) (m x v : Operand) (hop : o.op = Op.mapUpdate 79 m x v) {B : Nat} {xs : List S48} (hm : a.eval m = .map (some B)) (hM : mapMo.MS W B xs) (y : S48) (hx : a.eval x = mapMo.enc y) (hv : a.eval v = .bool true) (hy : mapMo.wf y = true) (hn : xs.length < 2932031007402)
  (h : ∀ w1, mapMo.MS w1 B (xs ++ [y]) → W.grownBy w1 (some B) → wpList Tryz.prog ops Q rest (a.put o.dst undef) w1) : wpList Tryz.prog ops Q (o :: rest) a W :=
 wpList_mapUpdate_own W hgd m x v 79 hop 48 4 mapMo.law Tryz.underlying79 (plainElem (H := Unit) Tryz.prog 4) B xs.length _ hm hM.2 (by unfold maxLen; omega) _ _ _ hx hv (mapMo.hkey y hy) _ [] (plainElem_bool Tryz.underlying4 true)
  (fun w' h1 h2 => h w' ⟨fun z hz => by
   rcases List.mem_append.1 hz with hz | hz
   ·exact hM.1 z hz
   ·rw [List.mem_singleton.1 hz]; exact hy, by
   rw [List.length_append]
   unfold mapMo.setD at h1 ⊢
   rw [List.foldl_append]
   exact h1⟩ h2)
theorem mapMo.get_has {k : Nat} {xs : List S48} {y0 y1 y2 y3 y4 y5 : Int} {r : Bool} (A : mapMo.has k xs y0 y1 y2 y3 y4 y5 = some r) (hgd : o.guard = none) (m x : Operand) (hop : o.op = Op.lookup 79 m x false) {B : Nat} (hm : a.eval m = .map (some B)) (hM : mapMo.MS W B xs) (hx : a.eval x = mapMo.enc ⟨⟨y0, y1, y2, y3⟩, ⟨y4, y5⟩⟩)
  (h : wpList Tryz.prog ops Q rest (a.put o.dst (.bool r)) W) : wpList Tryz.prog ops Q (o :: rest) a W := by
 obtain ⟨hy, hr⟩ := mapMo.has_inv A
 subst hr
 exact Kd.event_run hgd (by simp [execOp, hop, hm, hx, mapMo.MS_run hM _ hy, Result.andThen]) h
theorem mapMo.get_step {k : Nat} {xs : List S48} {y0 y1 y2 y3 y4 y5 : Int} {r : Bool} (A : mapMo.has k xs y0 y1 y2 y3 y4 y5 = some r) (hw : Region.wanted o (yielded ops a.tmps) = true) {N : Option Tmp} (hN : o.dst = N) (m x : Operand) (hop : o.op = Op.lookup 79 m x false) {B : Nat} (hm : a.eval m = .map (some B)) (hM : mapMo.MS W B xs) (hx : a.eval x = mapMo.enc ⟨⟨y0, y1, y2, y3⟩, ⟨y4, y5⟩⟩)
  (h : Kc (a.put N (.bool r)) W) : if Region.wanted o (yielded ops a.tmps) = true then Oper.wp Tryz.prog o a W Kc Q else Kc (a.put N undef) W := by
 obtain ⟨hy, hr⟩ := mapMo.has_inv A
 subst hr
 subst hN
 exact event_step hw (by simp [execOp, hop, hm, hx, mapMo.MS_run hM _ hy, Result.andThen]) h
end
end Go.Proofs.YtdodghjnlekgeaaGreat.PA
