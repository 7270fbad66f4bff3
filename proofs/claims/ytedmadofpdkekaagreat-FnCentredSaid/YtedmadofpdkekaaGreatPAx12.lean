/- Walks written by program: each Go function that the law reaches comes to the plain function beside it. -/
import Derived.Test.YtedmadofpdkekaaGreatPAx0
import Derived.Test.YtedmadofpdkekaaGreatPAx3
import Derived.Test.YtedmadofpdkekaaGreatPAx5
import Derived.Test.YtedmadofpdkekaaGreatPAx6
import Derived.Test.YtedmadofpdkekaaGreatPAx7
import Derived.Test.YtedmadofpdkekaaGreatPAx10
import Derived.Test.YtedmadofpdkekaaGreatPAx11
namespace Go.Proofs.YtedmadofpdkekaaGreat.PA
open Go.RowKit Go.Proofs.YtedmadofpdkekaaGreatW.PrintWords Go.Proofs.YtedmadofpdkekaaGreatW.PrintLast Go.Proofs.YtedmadofpdkekaaGreatW.PrintMore
attribute [local go_sem] max2_int min2_int max_two min_two max_three min_three max_four min_four   -- for this text's walks alone
set_option linter.unusedVariables false
set_option linter.unusedSimpArgs false

attribute [local go_sem high] eqA31
/-! ### impl_AxisOf: function 51 -/
def impl_AxisOf.j0 : Nat → Int → Int → Option (Int × Int × Int)
 | 0, _, _ => none
 | k + 1, x444000, x444001 => (impl_gcd.f k x444000 x444001).bind fun t444 => (if t444 = 0 then (none) else ((impl_compareVecs.f k (wrap64 (Int.tdiv x444000 t444)) (wrap64 (Int.tdiv x444001 t444)) 0 0).bind fun t445 => (if t445 < 0 then ((impl_Vec_times.f (wrap64 (Int.tdiv x444000 t444)) (wrap64 (Int.tdiv x444001 t444)) (-1)).bind fun bt446 => ((impl_limited.f bt446.1 bt446.2).bind fun bt448 => (some (bt448.1, bt448.2.1, bt448.2.2)))) else ((impl_limited.f (wrap64 (Int.tdiv x444000 t444)) (wrap64 (Int.tdiv x444001 t444))).bind fun bt451 => (some (bt451.1, bt451.2.1, bt451.2.2))))))
def impl_AxisOf.f (k : Nat) (a0_0 : Int) (a0_1 : Int) (a0_2 : Int) (a0_3 : Int) : Option (Int × Int × Int) := (impl_IsMat.f a0_0 a0_1 a0_2 a0_3).bind fun t441 => (if t441 = true then ((impl_Mat_isReflection.f k a0_0 a0_1 a0_2 a0_3).bind fun t442 => (if t442 = true then (if (a0_1 == 0 && ((wrap64 (1 - a0_0)) == 0)) = true then (impl_AxisOf.j0 k (wrap64 (1 - a0_3)) a0_2) else (impl_AxisOf.j0 k a0_1 (wrap64 (1 - a0_0)))) else (some (0, 0, 5)))) else (some (0, 0, 1)))
def impl_AxisOf.T9 : Bool × List (List Nat × List Nat) := (true, [([], []), ([0], [0]), ([], []), ([1, 2], [1, 2]), ([], []), ([4], [4]), ([], []), ([5, 6], [5, 6]), ([3, 7], [3, 7]), ([8, 0, 1, 2, 3, 4, 5, 6, 7, 8], [8])])
def impl_AxisOf.B9 : List Nat := [0, 1, 0, 7, 0, 16, 0, 112, 255, 511]
theorem impl_AxisOf.tab9 : rtab .any (opsOf Tryz.f51 9) = impl_AxisOf.T9 := by kernel_rfl
theorem impl_AxisOf.bits9 : waitsOk impl_AxisOf.T9.2 impl_AxisOf.B9 = true := by kernel_rfl
set_option maxHeartbeats 8000000 in
set_option maxRecDepth 100000 in
theorem impl_AxisOf.calls (k : Nat) (a0_0 : Int) (a0_1 : Int) (a0_2 : Int) (a0_3 : Int) (r1 : Int) (r2 : Int) (r3 : Int) (w : World) (h : impl_AxisOf.f k a0_0 a0_1 a0_2 a0_3 = some (r1, r2, r3)) :
  Calls Tryz.prog 51 #[.agg #[.int .i64 a0_0, .int .i64 a0_1, .int .i64 a0_2, .int .i64 a0_3]] w fun e w' => e = .returned (.tuple #[.agg #[.int .i64 r1, .int .i64 r2], .int .i64 r3]) ∧ Below w.heap.size w w' := by
 have hu27 := Tryz.underlying27
 have hu31 := Tryz.underlying31
 have HB := asd (Below.refl w.heap.size w)
 have H : ((impl_IsMat.f a0_0 a0_1 a0_2 a0_3).bind fun t441 => (if t441 = true then ((impl_Mat_isReflection.f k a0_0 a0_1 a0_2 a0_3).bind fun t442 => (if t442 = true then (if (a0_1 == 0 && ((wrap64 (1 - a0_0)) == 0)) = true then (impl_AxisOf.j0 k (wrap64 (1 - a0_3)) a0_2) else (impl_AxisOf.j0 k a0_1 (wrap64 (1 - a0_0)))) else (some (0, 0, 5)))) else (some (0, 0, 1)))) = some (r1, r2, r3) := h
 clear h
 obtain ⟨t441, A2, H⟩ := ob H
 try dsimp only at H
 by_cases c3 : t441 = true
 ·subst c3
  replace H := ifT H
  obtain ⟨t442, A4, H⟩ := ob H
  try dsimp only at H
  by_cases c5 : t442 = true
  ·subst c5
   replace H := ifT H
   have HC6 := Aside0.mk H
   clear H
   go_enter Tryz.func51, Tryz.ntmps51
   go_upto_if 22 with (first | ((with_reducible refine gd 1 rfl ?_); refine bx #[.int .i64 a0_0, .int .i64 a0_1, .int .i64 a0_2, .int .i64 a0_3] 27 ?_; intro gb439 hg w7 BK439 hb; have GE439 := ngw0 hg HB; replace HB := bS0 HB hb; clear hb hg) | ((with_reducible refine gd 2 rfl ?_); refine bx #[.int .i64 0, .int .i64 0] 31 ?_; intro gb440 hg w8 BK440 hb; have GE440 := ngw1 hg HB GE439; replace HB := bS1 HB GE439 hb; have NB439_440 := nlt hg BK439; have NB440_439 := nsy (nlt hg BK439); replace BK439 := bB BK439 hb; clear hb hg; have hnb9 := NB439_440.out; have hnc9 := NB440_439.out; obtain ⟨hcz10_0, hcz10_1, hcz10_2, hcz10_3, hfz10_0, hfz10_1, hfz10_2, hfz10_3⟩ := bz4 BK439) | ((with_reducible refine gate_callee (f := 40) rfl ?_); refine gl 7 Tryz.func40 #[.agg #[.int .i64 a0_0, .int .i64 a0_1, .int .i64 a0_2, .int .i64 a0_3]] ?_; (with_reducible refine (impl_IsMat.calls _ _ _ _ _ _ A2.out).mono ?_); rintro e w11 ⟨rfl, hb⟩; refine ⟨_, rfl, ?_⟩; replace BK439 := bB BK439 hb; replace BK440 := bB BK440 hb; replace HB := bS2 HB GE439 GE440 hb; (try clear hb); obtain ⟨hcz12_0, hcz12_1, hcz12_2, hcz12_3, hfz12_0, hfz12_1, hfz12_2, hfz12_3⟩ := bz4 BK439) | ((with_reducible refine gate_callee (f := 49) rfl ?_); refine gl 11 Tryz.func49 #[.agg #[.int .i64 a0_0, .int .i64 a0_1, .int .i64 a0_2, .int .i64 a0_3]] ?_; (with_reducible refine (impl_Mat_isReflection.calls _ _ _ _ _ _ _ A4.out).mono ?_); rintro e w13 ⟨rfl, hb⟩; refine ⟨_, rfl, ?_⟩; replace BK439 := bB BK439 hb; replace BK440 := bB BK440 hb; replace HB := bS2 HB GE439 GE440 hb; (try clear hb); obtain ⟨hcz14_0, hcz14_1, hcz14_2, hcz14_3, hfz14_0, hfz14_1, hfz14_2, hfz14_3⟩ := bz4 BK439) | ((with_reducible refine gd 4 rfl ?_); refine bx #[.int .i64 0, .int .i64 0] 31 ?_; intro gb443 hg w15 BK443 hb; have GE443 := ngw2 hg HB GE439 GE440; replace HB := bS2 HB GE439 GE440 hb; have NB439_443 := nlt hg BK439; have NB443_439 := nsy (nlt hg BK439); replace BK439 := bB BK439 hb; have NB440_443 := nlt hg BK440; have NB443_440 := nsy (nlt hg BK440); replace BK440 := bB BK440 hb; clear hb hg; have hnb16 := NB443_439.out; have hnc16 := NB439_443.out; have hnb17 := NB443_440.out; have hnc17 := NB440_443.out; obtain ⟨hcz18_0, hcz18_1, hfz18_0, hfz18_1⟩ := bz2 BK443))
   (try simp only [Act.put, sA, sB, sC])
   go_cut [] (fun wc => ∃ (kq : Nat) (x444000_5 : Int) (x444001_5 : Int), Aside0 (impl_AxisOf.j0 kq x444000_5 x444001_5 = some (r1, r2, r3)) ∧ Aside0 (kq ≤ k) ∧ Aside0 (wc.heap[gb439]? = some (.cells #[.int .i64 a0_0, .int .i64 a0_1, .int .i64 a0_2, .int .i64 a0_3] 27 (0, 0))) ∧ Aside0 (wc.heap[gb440]? = some (.cells #[.int .i64 0, .int .i64 0] 31 (0, 0))) ∧ Aside0 (wc.heap[gb443]? = some (.cells #[.int .i64 x444000_5, .int .i64 x444001_5] 31 (0, 0))) ∧ Aside0 (Below w.heap.size w wc))
   case first =>
    have H := HC6.out
    clear HC6
    by_cases c19 : (a0_1 == 0 && ((wrap64 (1 - a0_0)) == 0)) = true
    ·rw [if_pos c19] at H
     have c19b0 := c19
     (try (have c19b1 : decide (a0_1 = 0 && ((wrap64 (1 - a0_0)) == 0)) = true := by simpa using c19))
     (try (have c19b2 : (a0_1 == 0 && ((wrap64 (1 - a0_0)) == 0)) = true := by simpa using c19))
     clear c19
     (first | rw [c19b0] | (simp only [i64_w, i32_w]; rw [c19b0]) | skip)
     have H' := Aside0.mk H
     clear H
     have hnb20 := NB439_440.out
     have hnc20 := NB440_439.out
     have hnb21 := NB439_443.out
     have hnc21 := NB443_439.out
     obtain ⟨hcz22_0, hcz22_1, hcz22_2, hcz22_3, hfz22_0, hfz22_1, hfz22_2, hfz22_3⟩ := bz4 BK439
     have hnb23 := NB443_440.out
     have hnc23 := NB440_443.out
     obtain ⟨hcz24_0, hcz24_1, hfz24_0, hfz24_1⟩ := bz2 BK443
     go_wp2
     go_meet
     case rel => exact ⟨_, (wrap64 (1 - a0_3)), (a0_2), H', ⟨by first | omega | exact Nat.le_refl _⟩, ⟨bq1 BK439 NB439_443⟩, ⟨bq1 BK440 NB440_443⟩, ⟨bq0 BK443⟩, ⟨bbw3 HB GE439 GE440 GE443⟩⟩
    ·rw [if_neg c19] at H
     have c19b0 : (a0_1 == 0 && ((wrap64 (1 - a0_0)) == 0)) = false := by simpa using c19
     (try (have c19b1 : decide (a0_1 = 0 && ((wrap64 (1 - a0_0)) == 0)) = false := by simpa using c19))
     (try (have c19b2 : (a0_1 == 0 && ((wrap64 (1 - a0_0)) == 0)) = false := by simpa using c19))
     (try (have c19b3 : ¬ (a0_1 = 0 && ((wrap64 (1 - a0_0)) == 0)) := by simpa using c19))
     clear c19
     (first | rw [c19b0] | (simp only [i64_w, i32_w]; rw [c19b0]) | skip)
     have H' := Aside0.mk H
     clear H
     go_wp2
     go_meet
     case rel => exact ⟨_, (a0_1), (wrap64 (1 - a0_0)), H', ⟨by first | omega | exact Nat.le_refl _⟩, ⟨bq1 BK439 NB439_443⟩, ⟨bq1 BK440 NB440_443⟩, ⟨bq0 BK443⟩, ⟨bbw3 HB GE439 GE440 GE443⟩⟩
   case rest =>
    clear HC6
    try clear c1
    try clear c2
    try clear p2
    try clear c3
    try clear c4
    try clear c5
    try clear p6
    try clear c9
    try clear c16
    try clear c17
    try clear c19
    try clear c19b0
    try clear c19b1
    try clear c19b2
    try clear c20
    try clear c21
    try clear c23
    try clear hcz10_0
    try clear hcz10_1
    try clear hcz10_2
    try clear hcz10_3
    try clear hcz12_0
    try clear hcz12_1
    try clear hcz12_2
    try clear hcz12_3
    try clear hcz14_0
    try clear hcz14_1
    try clear hcz14_2
    try clear hcz14_3
    try clear hcz18_0
    try clear hcz18_1
    try clear hcz22_0
    try clear hcz22_1
    try clear hcz22_2
    try clear hcz22_3
    try clear hcz24_0
    try clear hcz24_1
    try clear hfz10_0
    try clear hfz10_1
    try clear hfz10_2
    try clear hfz10_3
    try clear hfz12_0
    try clear hfz12_1
    try clear hfz12_2
    try clear hfz12_3
    try clear hfz14_0
    try clear hfz14_1
    try clear hfz14_2
    try clear hfz14_3
    try clear hfz18_0
    try clear hfz18_1
    try clear hfz22_0
    try clear hfz22_1
    try clear hfz22_2
    try clear hfz22_3
    try clear hfz24_0
    try clear hfz24_1
    obtain ⟨kq, x444000_5, x444001_5, HA, HJ5, BK439, BK440, BK443, HB⟩ := hcut
    cases kq with
    | zero => exact absurd HA.out (by simp [impl_AxisOf.j0])
    | succ kj5 =>
     have H := HA.out
     clear HA
     simp only [impl_AxisOf.j0] at H
     obtain ⟨t444, A25, H⟩ := ob H
     try dsimp only at H
     by_cases c26 : t444 = 0
     ·rw [if_pos c26] at H
      exact absurd H (by simp)
     ·rw [if_neg c26] at H
      have c26b0 : (t444 == 0) = false := beq_eq_false_iff_ne.mpr c26
      have c26b1 : (t444 != 0) = true := bne_iff_ne.mpr c26
      obtain ⟨t445, A27, H⟩ := ob H
      try dsimp only at H
      by_cases c28 : t445 < 0
      ·rw [if_pos c28] at H
       have c28b0 := decide_eq_true c28
       clear c28
       obtain ⟨⟨t446, t447⟩, A29, H⟩ := ob H
       try dsimp only at H
       obtain ⟨⟨t448, t449, t450⟩, A30, H⟩ := ob H
       try dsimp only at H
       simp only [Option.some.injEq, Prod.mk.injEq] at H
       obtain ⟨rfl, rfl, rfl⟩ := H
       have hnb31 := NB443_439.out
       have hnc31 := NB439_443.out
       have hnb32 := NB443_440.out
       have hnc32 := NB440_443.out
       obtain ⟨hcz33_0, hcz33_1, hfz33_0, hfz33_1⟩ := bz2 BK443
       try go_wp2_with (first | ((with_reducible refine gate_callee (f := 65) rfl ?_); refine gl 33 Tryz.func65 #[.int .i64 x444000_5, .int .i64 x444001_5] ?_; (with_reducible refine (impl_gcd.calls _ _ _ _ _ A25.out).mono ?_); rintro e w34 ⟨rfl, hb⟩; refine ⟨_, rfl, ?_⟩; replace BK439 := bB BK439 hb; replace BK440 := bB BK440 hb; replace BK443 := bB BK443 hb; replace HB := bS3 HB GE439 GE440 GE443 hb; (try clear hb)))
       replace BK439 := asd (blk_drew BK439.out)
       replace BK440 := asd (blk_drew BK440.out)
       replace BK443 := asd (blk_drew BK443.out)
       replace HB := asd (below_drew1 HB.out)
       refine start_ (n := 10) (S := fun w' => w'.cell? ⟨gb443, 0, none⟩ = some (.int .i64 x444000_5) ∧ w'.cell? ⟨gb443, 1, none⟩ = some (.int .i64 x444001_5)) (ds := [9]) (bT 10 0) (by kernel_rfl) rfl rfl ⟨bcl BK443 0, bcl BK443 1⟩ (fun hHeld => ?_); refine with_tabW impl_AxisOf.tab9 impl_AxisOf.bits9 (fun HT_ HW_ => ?_)
       generalize w34.drew = w35 at BK439 BK440 BK443 HB hHeld ⊢
       refine pu 0 (some 34) (bT 10 1) HT_ ?_
       refine pu 2 (some 36) (bs 10 5) HT_ ?_
       refine pu 4 (some 38) (bs 10 21) HT_ ?_
       refine pu 6 (some 40) (bs 10 85) HT_ ?_
       refine ta 1 (some 35) (bs 10 87) HT_ HW_ hHeld ?_
       refine pu 3 (some 37) (bs 10 95) HT_ ?_
       refine ta 5 (some 39) (bT 10 7) HT_ HW_ hHeld ?_
       refine pu 7 (some 41) (bT 10 8) HT_ ?_
       refine pu 8 (some 42) (bT 10 9) HT_ ?_
       refine last_ (i := 9) (N := none) (bT 10 10) rfl rfl (one_of HT_.out (by kernel_rfl)) (by decide) (fun K hK => ?_)
       have hs36 : w35.cell? ⟨gb443, 0, none⟩ = some (.int .i64 x444000_5) := bcl BK443 0
       have hfs36 := blk_frozen BK443.out 0
       have hns36_0 := NB439_443.out
       have hns36_1 := NB440_443.out
       have hms36_0 := NB443_439.out
       have hms36_1 := NB443_440.out
       have hs37 : w35.cell? ⟨gb443, 1, none⟩ = some (.int .i64 x444001_5) := bcl BK443 1
       have hfs37 := blk_frozen BK443.out 1
       have hns37_0 := NB439_443.out
       have hns37_1 := NB440_443.out
       have hms37_0 := NB443_439.out
       have hms37_1 := NB443_440.out
       refine skip_ (w1 := ?_) (by rfl) rfl ?_ ?_
       rotate_left
       ·go_simp
        rfl
       refine hK.out _ _ ?_
       clear hK K
       refine done_ (done_of HT_.out (by kernel_rfl)) ?_
       obtain ⟨hcz38_0, hcz38_1, hfz38_0, hfz38_1⟩ := bz2 BK443
       try go_wp2_with (first | ((with_reducible refine gate_callee (f := 88) rfl ?_); refine gl 45 Tryz.func88 #[.agg #[.int .i64 (wrap64 (Int.tdiv x444000_5 t444)), .int .i64 (wrap64 (Int.tdiv x444001_5 t444))], .agg #[.int .i64 0, .int .i64 0]] ?_; (with_reducible refine (impl_compareVecs.calls _ _ _ _ _ _ _ A27.out).mono ?_); rintro e w39 ⟨rfl, hb⟩; refine ⟨_, rfl, ?_⟩; replace BK439 := asd (blk_below (g := gb439) (o := .cells #[.int .i64 a0_0, .int .i64 a0_1, .int .i64 a0_2, .int .i64 a0_3] 27 (0, 0)) (bq1 BK439 NB439_443) hb); replace BK440 := asd (blk_below (g := gb440) (o := .cells #[.int .i64 0, .int .i64 0] 31 (0, 0)) (bq1 BK440 NB440_443) hb); replace BK443 := asd (blk_below (g := gb443) (o := .cells #[.int .i64 (wrap64 (Int.tdiv x444000_5 t444)), .int .i64 (wrap64 (Int.tdiv x444001_5 t444))] 31 (0, 0)) (bq0 BK443) hb); replace HB := bS3 HB GE439 GE440 GE443 hb; (try clear hb); obtain ⟨hcz40_0, hcz40_1, hfz40_0, hfz40_1⟩ := bz2 BK443) | ((with_reducible refine gate_callee (f := 89) rfl ?_); refine gl 48 Tryz.func89 #[.agg #[.int .i64 (wrap64 (Int.tdiv x444000_5 t444)), .int .i64 (wrap64 (Int.tdiv x444001_5 t444))], .int .i64 (-1)] ?_; (with_reducible refine (impl_Vec_times.calls _ _ _ _ _ _ A29.out).mono ?_); rintro e w41 ⟨rfl, hb⟩; refine ⟨_, rfl, ?_⟩; replace BK439 := bB BK439 hb; replace BK440 := bB BK440 hb; replace BK443 := bB BK443 hb; replace HB := bS3 HB GE439 GE440 GE443 hb; (try clear hb); obtain ⟨hcz42_0, hcz42_1, hfz42_0, hfz42_1⟩ := bz2 BK443) | ((with_reducible refine gate_callee (f := 42) rfl ?_); refine gl 50 Tryz.func42 #[.agg #[.int .i64 t446, .int .i64 t447]] ?_; (with_reducible refine (impl_limited.calls _ _ _ _ _ _ A30.out).mono ?_); rintro e w43 ⟨rfl, hb⟩; refine ⟨_, rfl, ?_⟩; replace BK439 := asd (blk_below (g := gb439) (o := .cells #[.int .i64 a0_0, .int .i64 a0_1, .int .i64 a0_2, .int .i64 a0_3] 27 (0, 0)) (bq1 BK439 NB439_443) hb); replace BK440 := asd (blk_below (g := gb440) (o := .cells #[.int .i64 0, .int .i64 0] 31 (0, 0)) (bq1 BK440 NB440_443) hb); replace BK443 := asd (blk_below (g := gb443) (o := .cells #[.int .i64 t446, .int .i64 t447] 31 (0, 0)) (bq0 BK443) hb); replace HB := bS3 HB GE439 GE440 GE443 hb; (try clear hb); have hnb44 := NB440_439.out; have hnc44 := NB439_440.out; obtain ⟨hcz45_0, hcz45_1, hfz45_0, hfz45_1⟩ := bz2 BK440))
       refine bodyPost_ret (results_ct rfl _ _ gb440 31 #[.int .i64 t448, .int .i64 t449] (0, 0) _ rfl (bq0 BK440) Tryz.underlying31 rfl (by kernel_rfl)) rfl ?_
       exact er (bbw3 HB GE439 GE440 GE443)
      ·rw [if_neg c28] at H
       have c28b0 := decide_eq_false c28
       clear c28
       obtain ⟨⟨t451, t452, t453⟩, A46, H⟩ := ob H
       try dsimp only at H
       simp only [Option.some.injEq, Prod.mk.injEq] at H
       obtain ⟨rfl, rfl, rfl⟩ := H
       have hnb47 := NB443_439.out
       have hnc47 := NB439_443.out
       have hnb48 := NB443_440.out
       have hnc48 := NB440_443.out
       obtain ⟨hcz49_0, hcz49_1, hfz49_0, hfz49_1⟩ := bz2 BK443
       try go_wp2_with (first | ((with_reducible refine gate_callee (f := 65) rfl ?_); refine gl 33 Tryz.func65 #[.int .i64 x444000_5, .int .i64 x444001_5] ?_; (with_reducible refine (impl_gcd.calls _ _ _ _ _ A25.out).mono ?_); rintro e w50 ⟨rfl, hb⟩; refine ⟨_, rfl, ?_⟩; replace BK439 := bB BK439 hb; replace BK440 := bB BK440 hb; replace BK443 := bB BK443 hb; replace HB := bS3 HB GE439 GE440 GE443 hb; (try clear hb)))
       replace BK439 := asd (blk_drew BK439.out)
       replace BK440 := asd (blk_drew BK440.out)
       replace BK443 := asd (blk_drew BK443.out)
       replace HB := asd (below_drew1 HB.out)
       refine start_ (n := 10) (S := fun w' => w'.cell? ⟨gb443, 0, none⟩ = some (.int .i64 x444000_5) ∧ w'.cell? ⟨gb443, 1, none⟩ = some (.int .i64 x444001_5)) (ds := [9]) (bT 10 0) (by kernel_rfl) rfl rfl ⟨bcl BK443 0, bcl BK443 1⟩ (fun hHeld => ?_); refine with_tabW impl_AxisOf.tab9 impl_AxisOf.bits9 (fun HT_ HW_ => ?_)
       generalize w50.drew = w51 at BK439 BK440 BK443 HB hHeld ⊢
       refine pu 0 (some 34) (bT 10 1) HT_ ?_
       refine pu 2 (some 36) (bs 10 5) HT_ ?_
       refine pu 4 (some 38) (bs 10 21) HT_ ?_
       refine pu 6 (some 40) (bs 10 85) HT_ ?_
       refine ta 1 (some 35) (bs 10 87) HT_ HW_ hHeld ?_
       refine pu 3 (some 37) (bs 10 95) HT_ ?_
       refine ta 5 (some 39) (bT 10 7) HT_ HW_ hHeld ?_
       refine pu 7 (some 41) (bT 10 8) HT_ ?_
       refine pu 8 (some 42) (bT 10 9) HT_ ?_
       refine last_ (i := 9) (N := none) (bT 10 10) rfl rfl (one_of HT_.out (by kernel_rfl)) (by decide) (fun K hK => ?_)
       have hs52 : w51.cell? ⟨gb443, 0, none⟩ = some (.int .i64 x444000_5) := bcl BK443 0
       have hfs52 := blk_frozen BK443.out 0
       have hns52_0 := NB439_443.out
       have hns52_1 := NB440_443.out
       have hms52_0 := NB443_439.out
       have hms52_1 := NB443_440.out
       have hs53 : w51.cell? ⟨gb443, 1, none⟩ = some (.int .i64 x444001_5) := bcl BK443 1
       have hfs53 := blk_frozen BK443.out 1
       have hns53_0 := NB439_443.out
       have hns53_1 := NB440_443.out
       have hms53_0 := NB443_439.out
       have hms53_1 := NB443_440.out
       refine skip_ (w1 := ?_) (by rfl) rfl ?_ ?_
       rotate_left
       ·go_simp
        rfl
       refine hK.out _ _ ?_
       clear hK K
       refine done_ (done_of HT_.out (by kernel_rfl)) ?_
       obtain ⟨hcz54_0, hcz54_1, hfz54_0, hfz54_1⟩ := bz2 BK443
       try go_wp2_with (first | ((with_reducible refine gate_callee (f := 88) rfl ?_); refine gl 45 Tryz.func88 #[.agg #[.int .i64 (wrap64 (Int.tdiv x444000_5 t444)), .int .i64 (wrap64 (Int.tdiv x444001_5 t444))], .agg #[.int .i64 0, .int .i64 0]] ?_; (with_reducible refine (impl_compareVecs.calls _ _ _ _ _ _ _ A27.out).mono ?_); rintro e w55 ⟨rfl, hb⟩; refine ⟨_, rfl, ?_⟩; replace BK439 := asd (blk_below (g := gb439) (o := .cells #[.int .i64 a0_0, .int .i64 a0_1, .int .i64 a0_2, .int .i64 a0_3] 27 (0, 0)) (bq1 BK439 NB439_443) hb); replace BK440 := asd (blk_below (g := gb440) (o := .cells #[.int .i64 0, .int .i64 0] 31 (0, 0)) (bq1 BK440 NB440_443) hb); replace BK443 := asd (blk_below (g := gb443) (o := .cells #[.int .i64 (wrap64 (Int.tdiv x444000_5 t444)), .int .i64 (wrap64 (Int.tdiv x444001_5 t444))] 31 (0, 0)) (bq0 BK443) hb); replace HB := bS3 HB GE439 GE440 GE443 hb; (try clear hb); obtain ⟨hcz56_0, hcz56_1, hfz56_0, hfz56_1⟩ := bz2 BK443) | ((with_reducible refine gate_callee (f := 42) rfl ?_); refine gl 50 Tryz.func42 #[.agg #[.int .i64 (wrap64 (Int.tdiv x444000_5 t444)), .int .i64 (wrap64 (Int.tdiv x444001_5 t444))]] ?_; (with_reducible refine (impl_limited.calls _ _ _ _ _ _ A46.out).mono ?_); rintro e w57 ⟨rfl, hb⟩; refine ⟨_, rfl, ?_⟩; replace BK439 := bB BK439 hb; replace BK440 := bB BK440 hb; replace BK443 := bB BK443 hb; replace HB := bS3 HB GE439 GE440 GE443 hb; (try clear hb); have hnb58 := NB440_439.out; have hnc58 := NB439_440.out; obtain ⟨hcz59_0, hcz59_1, hfz59_0, hfz59_1⟩ := bz2 BK440))
       refine bodyPost_ret (results_ct rfl _ _ gb440 31 #[.int .i64 t451, .int .i64 t452] (0, 0) _ rfl (bq0 BK440) Tryz.underlying31 rfl (by kernel_rfl)) rfl ?_
       exact er (bbw3 HB GE439 GE440 GE443)
  ·replace c5 := Bool.eq_false_iff.mpr c5
   subst c5
   replace H := ifF H
   simp only [Option.some.injEq, Prod.mk.injEq] at H
   obtain ⟨rfl, rfl, rfl⟩ := H
   go_enter Tryz.func51, Tryz.ntmps51
   go_wp2_with (first | ((with_reducible refine gd 1 rfl ?_); refine bx #[.int .i64 a0_0, .int .i64 a0_1, .int .i64 a0_2, .int .i64 a0_3] 27 ?_; intro gb439 hg w60 BK439 hb; have GE439 := ngw0 hg HB; replace HB := bS0 HB hb; clear hb hg) | ((with_reducible refine gd 2 rfl ?_); refine bx #[.int .i64 0, .int .i64 0] 31 ?_; intro gb440 hg w61 BK440 hb; have GE440 := ngw1 hg HB GE439; replace HB := bS1 HB GE439 hb; have NB439_440 := nlt hg BK439; have NB440_439 := nsy (nlt hg BK439); replace BK439 := bB BK439 hb; clear hb hg; have hnb62 := NB439_440.out; have hnc62 := NB440_439.out; obtain ⟨hcz63_0, hcz63_1, hcz63_2, hcz63_3, hfz63_0, hfz63_1, hfz63_2, hfz63_3⟩ := bz4 BK439) | ((with_reducible refine gate_callee (f := 40) rfl ?_); refine gl 7 Tryz.func40 #[.agg #[.int .i64 a0_0, .int .i64 a0_1, .int .i64 a0_2, .int .i64 a0_3]] ?_; (with_reducible refine (impl_IsMat.calls _ _ _ _ _ _ A2.out).mono ?_); rintro e w64 ⟨rfl, hb⟩; refine ⟨_, rfl, ?_⟩; replace BK439 := bB BK439 hb; replace BK440 := bB BK440 hb; replace HB := bS2 HB GE439 GE440 hb; (try clear hb); obtain ⟨hcz65_0, hcz65_1, hcz65_2, hcz65_3, hfz65_0, hfz65_1, hfz65_2, hfz65_3⟩ := bz4 BK439) | ((with_reducible refine gate_callee (f := 49) rfl ?_); refine gl 11 Tryz.func49 #[.agg #[.int .i64 a0_0, .int .i64 a0_1, .int .i64 a0_2, .int .i64 a0_3]] ?_; (with_reducible refine (impl_Mat_isReflection.calls _ _ _ _ _ _ _ A4.out).mono ?_); rintro e w66 ⟨rfl, hb⟩; refine ⟨_, rfl, ?_⟩; replace BK439 := bB BK439 hb; replace BK440 := bB BK440 hb; replace HB := bS2 HB GE439 GE440 hb; (try clear hb); obtain ⟨hcz67_0, hcz67_1, hfz67_0, hfz67_1⟩ := bz2 BK440))
   refine bodyPost_ret (results_ct rfl _ _ gb440 31 #[.int .i64 0, .int .i64 0] (0, 0) _ rfl (bq0 BK440) Tryz.underlying31 rfl (by kernel_rfl)) rfl ?_
   exact er (bbw2 HB GE439 GE440)
 ·replace c3 := Bool.eq_false_iff.mpr c3
  subst c3
  replace H := ifF H
  simp only [Option.some.injEq, Prod.mk.injEq] at H
  obtain ⟨rfl, rfl, rfl⟩ := H
  go_enter Tryz.func51, Tryz.ntmps51
  go_wp2_with (first | ((with_reducible refine gd 1 rfl ?_); refine bx #[.int .i64 a0_0, .int .i64 a0_1, .int .i64 a0_2, .int .i64 a0_3] 27 ?_; intro gb439 hg w68 BK439 hb; have GE439 := ngw0 hg HB; replace HB := bS0 HB hb; clear hb hg) | ((with_reducible refine gd 2 rfl ?_); refine bx #[.int .i64 0, .int .i64 0] 31 ?_; intro gb440 hg w69 BK440 hb; have GE440 := ngw1 hg HB GE439; replace HB := bS1 HB GE439 hb; have NB439_440 := nlt hg BK439; have NB440_439 := nsy (nlt hg BK439); replace BK439 := bB BK439 hb; clear hb hg; have hnb70 := NB439_440.out; have hnc70 := NB440_439.out; obtain ⟨hcz71_0, hcz71_1, hcz71_2, hcz71_3, hfz71_0, hfz71_1, hfz71_2, hfz71_3⟩ := bz4 BK439) | ((with_reducible refine gate_callee (f := 40) rfl ?_); refine gl 7 Tryz.func40 #[.agg #[.int .i64 a0_0, .int .i64 a0_1, .int .i64 a0_2, .int .i64 a0_3]] ?_; (with_reducible refine (impl_IsMat.calls _ _ _ _ _ _ A2.out).mono ?_); rintro e w72 ⟨rfl, hb⟩; refine ⟨_, rfl, ?_⟩; replace BK439 := bB BK439 hb; replace BK440 := bB BK440 hb; replace HB := bS2 HB GE439 GE440 hb; (try clear hb); obtain ⟨hcz73_0, hcz73_1, hfz73_0, hfz73_1⟩ := bz2 BK440))
  refine bodyPost_ret (results_ct rfl _ _ gb440 31 #[.int .i64 0, .int .i64 0] (0, 0) _ rfl (bq0 BK440) Tryz.underlying31 rfl (by kernel_rfl)) rfl ?_
  exact er (bbw2 HB GE439 GE440)

/-! ### impl_Mat_axis: function 22 -/
def impl_Mat_axis.f (k : Nat) (a0_0 : Int) (a0_1 : Int) (a0_2 : Int) (a0_3 : Int) : Option (Int × Int) := (impl_AxisOf.f k a0_0 a0_1 a0_2 a0_3).bind fun bt456 => (some (bt456.1, bt456.2.1))
set_option maxHeartbeats 8000000 in
set_option maxRecDepth 100000 in
theorem impl_Mat_axis.calls (k : Nat) (a0_0 : Int) (a0_1 : Int) (a0_2 : Int) (a0_3 : Int) (r1 : Int) (r2 : Int) (w : World) (h : impl_Mat_axis.f k a0_0 a0_1 a0_2 a0_3 = some (r1, r2)) :
  Calls Tryz.prog 22 #[.agg #[.int .i64 a0_0, .int .i64 a0_1, .int .i64 a0_2, .int .i64 a0_3]] w fun e w' => e = .returned (.agg #[.int .i64 r1, .int .i64 r2]) ∧ Below w.heap.size w w' := by
 have hu27 := Tryz.underlying27
 have hu31 := Tryz.underlying31
 have HB := asd (Below.refl w.heap.size w)
 have H : ((impl_AxisOf.f k a0_0 a0_1 a0_2 a0_3).bind fun bt456 => (some (bt456.1, bt456.2.1))) = some (r1, r2) := h
 clear h
 obtain ⟨⟨t456, t457, t458⟩, A2, H⟩ := ob H
 try dsimp only at H
 simp only [Option.some.injEq, Prod.mk.injEq] at H
 obtain ⟨rfl, rfl⟩ := H
 go_enter Tryz.func22, Tryz.ntmps22
 go_wp2_with (first | ((with_reducible refine gd 1 rfl ?_); refine bx #[.int .i64 a0_0, .int .i64 a0_1, .int .i64 a0_2, .int .i64 a0_3] 27 ?_; intro gb454 hg w3 BK454 hb; have GE454 := ngw0 hg HB; replace HB := bS0 HB hb; clear hb hg) | ((with_reducible refine gd 2 rfl ?_); refine bx #[.int .i64 0, .int .i64 0] 31 ?_; intro gb455 hg w4 BK455 hb; have GE455 := ngw1 hg HB GE454; replace HB := bS1 HB GE454 hb; have NB454_455 := nlt hg BK454; have NB455_454 := nsy (nlt hg BK454); replace BK454 := bB BK454 hb; clear hb hg; have hnb5 := NB454_455.out; have hnc5 := NB455_454.out; obtain ⟨hcz6_0, hcz6_1, hcz6_2, hcz6_3, hfz6_0, hfz6_1, hfz6_2, hfz6_3⟩ := bz4 BK454) | ((with_reducible refine gate_callee (f := 51) rfl ?_); refine gl 7 Tryz.func51 #[.agg #[.int .i64 a0_0, .int .i64 a0_1, .int .i64 a0_2, .int .i64 a0_3]] ?_; (with_reducible refine (impl_AxisOf.calls _ _ _ _ _ _ _ _ _ A2.out).mono ?_); rintro e w7 ⟨rfl, hb⟩; refine ⟨_, rfl, ?_⟩; replace BK454 := bB BK454 hb; replace BK455 := bB BK455 hb; replace HB := bS2 HB GE454 GE455 hb; (try clear hb)) | ((with_reducible refine gd 3 rfl ?_); refine bx #[.int .i64 0, .int .i64 0] 31 ?_; intro gb459 hg w8 BK459 hb; have GE459 := ngw2 hg HB GE454 GE455; replace HB := bS2 HB GE454 GE455 hb; have NB454_459 := nlt hg BK454; have NB459_454 := nsy (nlt hg BK454); replace BK454 := bB BK454 hb; have NB455_459 := nlt hg BK455; have NB459_455 := nsy (nlt hg BK455); replace BK455 := bB BK455 hb; clear hb hg; have hnb9 := NB459_454.out; have hnc9 := NB454_459.out; have hnb10 := NB459_455.out; have hnc10 := NB455_459.out; obtain ⟨hcz11_0, hcz11_1, hfz11_0, hfz11_1⟩ := bz2 BK459; obtain ⟨hcz12_0, hcz12_1, hfz12_0, hfz12_1⟩ := bz2 BK455))
 refine bodyPost_ret (results_cell_row rfl _ _ gb455 31 #[.int .i64 t456, .int .i64 t457] (0, 0) _ rfl (bq1 BK455 NB455_459) Tryz.underlying31 rfl (by kernel_rfl)) rfl ?_
 exact er (bbw3 HB GE454 GE455 GE459)
/-! ### impl_InvariantVec: function 6 -/
def impl_InvariantVec.f (k : Nat) (a0 : Int) (a1_0 : Int) (a1_1 : Int) (a1_2 : Int) (a2_0 : Int) (a2_1 : Int) (a2_2 : Int) (a2_3 : Int) : Option (Int × Int × Int) := (impl_mirrorCode.f k a0 a1_0 a1_1 a1_2 a2_0 a2_1 a2_2 a2_3).bind fun t463 => (if t463 = 0 then ((impl_Mat_axis.f k a2_0 a2_1 a2_2 a2_3).bind fun bt464 => ((impl_Lattice_multipleIn.f k a1_0 a1_1 a1_2 bt464.1 bt464.2).bind fun bt466 => (some (bt466.1, bt466.2, 0)))) else (some (0, 0, t463)))
set_option maxHeartbeats 8000000 in
set_option maxRecDepth 100000 in
theorem impl_InvariantVec.calls (k : Nat) (a0 : Int) (a1_0 : Int) (a1_1 : Int) (a1_2 : Int) (a2_0 : Int) (a2_1 : Int) (a2_2 : Int) (a2_3 : Int) (r1 : Int) (r2 : Int) (r3 : Int) (w : World) (h : impl_InvariantVec.f k a0 a1_0 a1_1 a1_2 a2_0 a2_1 a2_2 a2_3 = some (r1, r2, r3)) :
  Calls Tryz.prog 6 #[.int .i64 a0, .agg #[.int .i64 a1_0, .int .i64 a1_1, .int .i64 a1_2], .agg #[.int .i64 a2_0, .int .i64 a2_1, .int .i64 a2_2, .int .i64 a2_3]] w fun e w' => e = .returned (.tuple #[.agg #[.int .i64 r1, .int .i64 r2], .int .i64 r3]) ∧ Below w.heap.size w w' := by
 have hu25 := Tryz.underlying25
 have hu27 := Tryz.underlying27
 have hu31 := Tryz.underlying31
 have HB := asd (Below.refl w.heap.size w)
 have H : ((impl_mirrorCode.f k a0 a1_0 a1_1 a1_2 a2_0 a2_1 a2_2 a2_3).bind fun t463 => (if t463 = 0 then ((impl_Mat_axis.f k a2_0 a2_1 a2_2 a2_3).bind fun bt464 => ((impl_Lattice_multipleIn.f k a1_0 a1_1 a1_2 bt464.1 bt464.2).bind fun bt466 => (some (bt466.1, bt466.2, 0)))) else (some (0, 0, t463)))) = some (r1, r2, r3) := h
 clear h
 obtain ⟨t463, A4, H⟩ := ob H
 try dsimp only at H
 by_cases c5 : t463 = 0
 ·rw [if_pos c5] at H
  have c5b0 : (t463 == 0) = true := beq_iff_eq.mpr c5
  have c5b1 : (t463 != 0) = false := bne_eq_false_iff_eq.mpr c5
  clear c5
  obtain ⟨⟨t464, t465⟩, A6, H⟩ := ob H
  try dsimp only at H
  obtain ⟨⟨t466, t467⟩, A7, H⟩ := ob H
  try dsimp only at H
  simp only [Option.some.injEq, Prod.mk.injEq] at H
  obtain ⟨rfl, rfl, rfl⟩ := H
  go_enter Tryz.func6, Tryz.ntmps6
  try go_wp2_with (first | ((with_reducible refine gd 4 rfl ?_); refine bx #[.int .i64 a1_0, .int .i64 a1_1, .int .i64 a1_2] 25 ?_; intro gb460 hg w8 BK460 hb; have GE460 := ngw0 hg HB; replace HB := bS0 HB hb; clear hb hg) | ((with_reducible refine gd 5 rfl ?_); refine bx #[.int .i64 a2_0, .int .i64 a2_1, .int .i64 a2_2, .int .i64 a2_3] 27 ?_; intro gb461 hg w9 BK461 hb; have GE461 := ngw1 hg HB GE460; replace HB := bS1 HB GE460 hb; have NB460_461 := nlt hg BK460; have NB461_460 := nsy (nlt hg BK460); replace BK460 := bB BK460 hb; clear hb hg) | ((with_reducible refine gd 6 rfl ?_); refine bx #[.int .i64 0, .int .i64 0] 31 ?_; intro gb462 hg w10 BK462 hb; have GE462 := ngw2 hg HB GE460 GE461; replace HB := bS2 HB GE460 GE461 hb; have NB460_462 := nlt hg BK460; have NB462_460 := nsy (nlt hg BK460); replace BK460 := bB BK460 hb; have NB461_462 := nlt hg BK461; have NB462_461 := nsy (nlt hg BK461); replace BK461 := bB BK461 hb; clear hb hg; have hnb11 := NB460_461.out; have hnc11 := NB461_460.out; have hnb12 := NB460_462.out; have hnc12 := NB462_460.out; obtain ⟨hcz13_0, hcz13_1, hcz13_2, hfz13_0, hfz13_1, hfz13_2⟩ := bz3 BK460; have hnb14 := NB461_462.out; have hnc14 := NB462_461.out; obtain ⟨hcz15_0, hcz15_1, hcz15_2, hcz15_3, hfz15_0, hfz15_1, hfz15_2, hfz15_3⟩ := bz4 BK461) | ((with_reducible refine gate_callee (f := 20) rfl ?_); refine gl 12 Tryz.func20 #[.int .i64 a0, .agg #[.int .i64 a1_0, .int .i64 a1_1, .int .i64 a1_2], .agg #[.int .i64 a2_0, .int .i64 a2_1, .int .i64 a2_2, .int .i64 a2_3]] ?_; (with_reducible refine (impl_mirrorCode.calls _ _ _ _ _ _ _ _ _ _ _ A4.out).mono ?_); rintro e w16 ⟨rfl, hb⟩; refine ⟨_, rfl, ?_⟩; replace BK460 := bB BK460 hb; replace BK461 := bB BK461 hb; replace BK462 := bB BK462 hb; replace HB := bS3 HB GE460 GE461 GE462 hb; (try clear hb)))
  replace BK460 := asd (blk_drew BK460.out)
  replace BK461 := asd (blk_drew BK461.out)
  replace BK462 := asd (blk_drew BK462.out)
  replace HB := asd (below_drew1 HB.out)
  refine sh 6 (cb3 BK460 (eb4 BK461)) (fun hHeld => ?_)
  generalize w16.drew = w17 at BK460 BK461 BK462 HB hHeld ⊢
  refine take_ (i := 0) (N := some 17) (v := ?_) (a' := ?_) (bT 6 1) rfl rfl (by kernel_rfl) (fun _ _ _ h => h) (Or.inl ⟨by rfl, ?_⟩) hHeld ?_ ?_
  rotate_left
  ·rintro w' ⟨s0, s1, s2, s3, s4, s5, s6⟩
   go_simp
   with_reducible rfl
  rotate_left
  ·simp only [Act.put, sA, sB, sC, i64_w, i32_w]
   rfl
  refine take_ (i := 1) (N := some 18) (v := ?_) (a' := ?_) (bT 6 2) rfl rfl (by kernel_rfl) (fun _ _ _ h => h) (Or.inl ⟨by rfl, ?_⟩) hHeld ?_ ?_
  rotate_left
  ·rintro w' ⟨s0, s1, s2, s3, s4, s5, s6⟩
   go_simp
   with_reducible rfl
  rotate_left
  ·simp only [Act.put, sA, sB, sC, i64_w, i32_w]
   rfl
  refine one_ (i := 2) (N := some 19) (bT 6 3) rfl rfl (by kernel_rfl) (by decide) (fun K hK => ?_)
  refine gs Tryz.func22 #[.agg #[.int .i64 a2_0, .int .i64 a2_1, .int .i64 a2_2, .int .i64 a2_3]] ?_
  with_reducible refine (impl_Mat_axis.calls _ _ _ _ _ _ _ _ A6.out).mono ?_
  rintro e w18 ⟨rfl, hb⟩
  refine ⟨_, rfl, ?_⟩
  replace BK460 := bB BK460 hb
  replace BK461 := bB BK461 hb
  replace BK462 := bB BK462 hb
  replace HB := bS3 HB GE460 GE461 GE462 hb
  (try clear hb)
  (try clear hb2)
  (try clear hk)
  (try clear hi)
  refine hK.out _ _ (cb3 BK460 (eb4 BK461)).out (fun hHeld => ?_)
  clear hK K
  refine norm_ (a' := ?_) ?_ ?_
  rotate_left
  ·show Act.put _ (some 19) _ = _
   simp only [Act.put, sA, sB, sC, i64_w, i32_w]
   rfl
  refine one_ (i := 3) (N := some 20) (bT 6 4) rfl rfl (by kernel_rfl) (by decide) (fun K hK => ?_)
  refine gs Tryz.func21 #[.agg #[.int .i64 a1_0, .int .i64 a1_1, .int .i64 a1_2], .agg #[.int .i64 t464, .int .i64 t465]] ?_
  with_reducible refine (impl_Lattice_multipleIn.calls _ _ _ _ _ _ _ _ _ A7.out).mono ?_
  rintro e w19 ⟨rfl, hb⟩
  refine ⟨_, rfl, ?_⟩
  replace BK460 := bB BK460 hb
  replace BK461 := bB BK461 hb
  replace BK462 := bB BK462 hb
  replace HB := bS3 HB GE460 GE461 GE462 hb
  (try clear hb)
  (try clear hb2)
  (try clear hk)
  (try clear hi)
  refine hK.out _ _ (cb3 BK460 (eb4 BK461)).out (fun hHeld => ?_)
  clear hK K
  refine norm_ (a' := ?_) ?_ ?_
  rotate_left
  ·show Act.put _ (some 20) _ = _
   simp only [Act.put, sA, sB, sC, i64_w, i32_w]
   rfl
  refine one_ (i := 4) (N := none) (bT 6 5) rfl rfl (by kernel_rfl) (by decide) (fun K hK => ?_)
  have hs20 : w19.cell? ⟨gb462, 0, none⟩ = some (.int .i64 0) := bcl BK462 0
  have hfs20 := blk_frozen BK462.out 0
  have hns20_0 := NB460_462.out
  have hns20_1 := NB461_462.out
  have hms20_0 := NB462_460.out
  have hms20_1 := NB462_461.out
  have hs21 : w19.cell? ⟨gb462, 1, none⟩ = some (.int .i64 0) := bcl BK462 1
  have hfs21 := blk_frozen BK462.out 1
  have hns21_0 := NB460_462.out
  have hns21_1 := NB461_462.out
  have hms21_0 := NB462_460.out
  have hms21_1 := NB462_461.out
  refine skip_ (w1 := ?_) (by rfl) rfl ?_ ?_
  rotate_left
  ·go_simp
   rfl
  refine hK.out _ _ ⟨(cf2 NB460_462 (hHeld.1)), (cf2 NB460_462 (hHeld.2.1)), (cf2 NB460_462 (hHeld.2.2.1)), (cf2 NB461_462 (hHeld.2.2.2.1)), (cf2 NB461_462 (hHeld.2.2.2.2.1)), (cf2 NB461_462 (hHeld.2.2.2.2.2.1)), (cf2 NB461_462 (hHeld.2.2.2.2.2.2))⟩ (fun hHeld => ?_)
  clear hK K
  refine pure_ (i := 5) (N := some 7) (v := ?_) (a' := ?_) (bT 6 6) rfl rfl (by kernel_rfl) (fun _ _ _ h => h) (Or.inl ⟨by rfl, ?_⟩) ?_ ?_
  rotate_left
  ·intro w'
   go_simp
   with_reducible rfl
  rotate_left
  ·simp only [Act.put, sA, sB, sC, i64_w, i32_w]
   rfl
  refine done_ (by kernel_rfl) ?_
  try go_wp2
  refine bodyPost_ret (results_ct rfl _ _ gb462 31 #[.int .i64 t466, .int .i64 t467] (0, 0) _ rfl (bq0 BK462) Tryz.underlying31 rfl (by kernel_rfl)) rfl ?_
  exact er (bbw3 HB GE460 GE461 GE462)
 ·rw [if_neg c5] at H
  have c5b0 : (t463 == 0) = false := beq_eq_false_iff_ne.mpr c5
  have c5b1 : (t463 != 0) = true := bne_iff_ne.mpr c5
  simp only [Option.some.injEq, Prod.mk.injEq] at H
  obtain ⟨rfl, rfl, rfl⟩ := H
  go_enter Tryz.func6, Tryz.ntmps6
  go_wp2_with (first | ((with_reducible refine gd 4 rfl ?_); refine bx #[.int .i64 a1_0, .int .i64 a1_1, .int .i64 a1_2] 25 ?_; intro gb460 hg w22 BK460 hb; have GE460 := ngw0 hg HB; replace HB := bS0 HB hb; clear hb hg) | ((with_reducible refine gd 5 rfl ?_); refine bx #[.int .i64 a2_0, .int .i64 a2_1, .int .i64 a2_2, .int .i64 a2_3] 27 ?_; intro gb461 hg w23 BK461 hb; have GE461 := ngw1 hg HB GE460; replace HB := bS1 HB GE460 hb; have NB460_461 := nlt hg BK460; have NB461_460 := nsy (nlt hg BK460); replace BK460 := bB BK460 hb; clear hb hg) | ((with_reducible refine gd 6 rfl ?_); refine bx #[.int .i64 0, .int .i64 0] 31 ?_; intro gb462 hg w24 BK462 hb; have GE462 := ngw2 hg HB GE460 GE461; replace HB := bS2 HB GE460 GE461 hb; have NB460_462 := nlt hg BK460; have NB462_460 := nsy (nlt hg BK460); replace BK460 := bB BK460 hb; have NB461_462 := nlt hg BK461; have NB462_461 := nsy (nlt hg BK461); replace BK461 := bB BK461 hb; clear hb hg; have hnb25 := NB460_461.out; have hnc25 := NB461_460.out; have hnb26 := NB460_462.out; have hnc26 := NB462_460.out; obtain ⟨hcz27_0, hcz27_1, hcz27_2, hfz27_0, hfz27_1, hfz27_2⟩ := bz3 BK460; have hnb28 := NB461_462.out; have hnc28 := NB462_461.out; obtain ⟨hcz29_0, hcz29_1, hcz29_2, hcz29_3, hfz29_0, hfz29_1, hfz29_2, hfz29_3⟩ := bz4 BK461) | ((with_reducible refine gate_callee (f := 20) rfl ?_); refine gl 12 Tryz.func20 #[.int .i64 a0, .agg #[.int .i64 a1_0, .int .i64 a1_1, .int .i64 a1_2], .agg #[.int .i64 a2_0, .int .i64 a2_1, .int .i64 a2_2, .int .i64 a2_3]] ?_; (with_reducible refine (impl_mirrorCode.calls _ _ _ _ _ _ _ _ _ _ _ A4.out).mono ?_); rintro e w30 ⟨rfl, hb⟩; refine ⟨_, rfl, ?_⟩; replace BK460 := bB BK460 hb; replace BK461 := bB BK461 hb; replace BK462 := bB BK462 hb; replace HB := bS3 HB GE460 GE461 GE462 hb; (try clear hb); obtain ⟨hcz31_0, hcz31_1, hfz31_0, hfz31_1⟩ := bz2 BK462))
  refine bodyPost_ret (results_ct rfl _ _ gb462 31 #[.int .i64 0, .int .i64 0] (0, 0) _ rfl (bq0 BK462) Tryz.underlying31 rfl (by kernel_rfl)) rfl ?_
  exact er (bbw3 HB GE460 GE461 GE462)
/-! ### spec_l06Code: function 23 -/
def spec_l06Code.f (a0 : Int) (a1_0 : Int) (a1_1 : Int) (a1_2 : Int) (a2 : Bool) : Option (Int) := (spec_l04Code.f a0 a1_0 a1_1 a1_2).bind fun t469 => (if t469 = 0 then (if a2 = true then (some t469) else (some 2)) else (some t469))
set_option maxHeartbeats 8000000 in
set_option maxRecDepth 100000 in
theorem spec_l06Code.calls (a0 : Int) (a1_0 : Int) (a1_1 : Int) (a1_2 : Int) (a2 : Bool) (r : Int) (w : World) (h : spec_l06Code.f a0 a1_0 a1_1 a1_2 a2 = some r) :
  Calls Tryz.prog 23 #[.int .i64 a0, .agg #[.int .i64 a1_0, .int .i64 a1_1, .int .i64 a1_2], .bool a2] w fun e w' => e = .returned (.int .i64 r) ∧ Below w.heap.size w w' := by
 have hu25 := Tryz.underlying25
 have HB := asd (Below.refl w.heap.size w)
 have H : ((spec_l04Code.f a0 a1_0 a1_1 a1_2).bind fun t469 => (if t469 = 0 then (if a2 = true then (some t469) else (some 2)) else (some t469))) = some r := h
 clear h
 obtain ⟨t469, A4, H⟩ := ob H
 try dsimp only at H
 by_cases c5 : t469 = 0
 rw [if_pos c5] at H
 have c5b0 : (t469 == 0) = true := beq_iff_eq.mpr c5
 have c5b1 : (t469 != 0) = false := bne_eq_false_iff_eq.mpr c5
 clear c5
 by_cases c6 : a2 = true
 subst c6
 replace H := ifT H
 obtain rfl := Option.some.inj H
 rotate_left
 replace c6 := Bool.eq_false_iff.mpr c6
 subst c6
 replace H := ifF H
 obtain rfl := Option.some.inj H
 rotate_left
 rw [if_neg c5] at H
 have c5b0 : (t469 == 0) = false := beq_eq_false_iff_ne.mpr c5
 have c5b1 : (t469 != 0) = true := bne_iff_ne.mpr c5
 obtain rfl := Option.some.inj H
 rotate_left
 all_goals
  go_enter Tryz.func23, Tryz.ntmps23
  go_wp2_with (first | ((with_reducible refine gd 4 rfl ?_); refine bx #[.int .i64 a1_0, .int .i64 a1_1, .int .i64 a1_2] 25 ?_; intro gb468 hg w7 BK468 hb; have GE468 := ngw0 hg HB; replace HB := bS0 HB hb; clear hb hg; obtain ⟨hcz8_0, hcz8_1, hcz8_2, hfz8_0, hfz8_1, hfz8_2⟩ := bz3 BK468) | ((with_reducible refine gate_callee (f := 52) rfl ?_); refine gl 10 Tryz.func52 #[.int .i64 a0, .agg #[.int .i64 a1_0, .int .i64 a1_1, .int .i64 a1_2]] ?_; (with_reducible refine (spec_l04Code.calls _ _ _ _ _ _ A4.out).mono ?_); rintro e w9 ⟨rfl, hb⟩; refine ⟨_, rfl, ?_⟩; replace BK468 := bB BK468 hb; replace HB := bS1 HB GE468 hb; (try clear hb)))
  go_ret
  exact er (bbw1 HB GE468)
/-! ### spec_IsVec: function 68 -/
def spec_IsVec.f (a0_0 : Int) (a0_1 : Int) : Option (Bool) := (spec_l01In.f a0_0 (-1000) 1000).bind fun t471 => (if t471 = true then ((spec_l01In.f a0_1 (-1000) 1000).bind fun t472 => (some t472)) else (some false))
set_option maxHeartbeats 8000000 in
set_option maxRecDepth 100000 in
theorem spec_IsVec.calls (a0_0 : Int) (a0_1 : Int) (r : Bool) (w : World) (h : spec_IsVec.f a0_0 a0_1 = some r) :
  Calls Tryz.prog 68 #[.agg #[.int .i64 a0_0, .int .i64 a0_1]] w fun e w' => e = .returned (.bool r) ∧ Below w.heap.size w w' := by
 have hu31 := Tryz.underlying31
 have HB := asd (Below.refl w.heap.size w)
 have H : ((spec_l01In.f a0_0 (-1000) 1000).bind fun t471 => (if t471 = true then ((spec_l01In.f a0_1 (-1000) 1000).bind fun t472 => (some t472)) else (some false))) = some r := h
 clear h
 obtain ⟨t471, A2, H⟩ := ob H
 try dsimp only at H
 by_cases c3 : t471 = true
 subst c3
 replace H := ifT H
 obtain ⟨t472, A4, H⟩ := ob H
 try dsimp only at H
 obtain rfl := Option.some.inj H
 rotate_left
 replace c3 := Bool.eq_false_iff.mpr c3
 subst c3
 replace H := ifF H
 obtain rfl := Option.some.inj H
 rotate_left
 all_goals
  go_enter Tryz.func68, Tryz.ntmps68
  go_wp2_with (first | ((with_reducible refine gd 1 rfl ?_); refine bx #[.int .i64 a0_0, .int .i64 a0_1] 31 ?_; intro gb470 hg w5 BK470 hb; have GE470 := ngw0 hg HB; replace HB := bS0 HB hb; clear hb hg; obtain ⟨hcz6_0, hcz6_1, hfz6_0, hfz6_1⟩ := bz2 BK470) | ((with_reducible refine gate_callee (f := 100) rfl ?_); refine gl 5 Tryz.func100 #[.int .i64 a0_0, .int .i64 (-1000), .int .i64 1000] ?_; (with_reducible refine (spec_l01In.calls _ _ _ _ _ A2.out).mono ?_); rintro e w' ⟨rfl, ⟨nd, rfl⟩⟩; refine ⟨_, rfl, ?_⟩) | (go_at_call 100; (with_reducible refine (spec_l01In.calls _ _ _ _ _ A4.out).mono ?_); rintro e w' ⟨rfl, ⟨nd, rfl⟩⟩))
  go_ret
  exact er (bbw1 HB GE470)
/-! ### spec_l02Small: function 109 -/
def spec_l02Small.f (a0_0 : Int) (a0_1 : Int) (a0_2 : Int) (a0_3 : Int) : Option (Bool) := (spec_IsVec.f a0_0 a0_1).bind fun t474 => (if t474 = true then ((spec_IsVec.f a0_2 a0_3).bind fun t475 => (some t475)) else (some false))
set_option maxHeartbeats 8000000 in
set_option maxRecDepth 100000 in
theorem spec_l02Small.calls (a0_0 : Int) (a0_1 : Int) (a0_2 : Int) (a0_3 : Int) (r : Bool) (w : World) (h : spec_l02Small.f a0_0 a0_1 a0_2 a0_3 = some r) :
  Calls Tryz.prog 109 #[.agg #[.int .i64 a0_0, .int .i64 a0_1, .int .i64 a0_2, .int .i64 a0_3]] w fun e w' => e = .returned (.bool r) ∧ Below w.heap.size w w' := by
 have hu27 := Tryz.underlying27
 have hu31 := Tryz.underlying31
 have HB := asd (Below.refl w.heap.size w)
 have H : ((spec_IsVec.f a0_0 a0_1).bind fun t474 => (if t474 = true then ((spec_IsVec.f a0_2 a0_3).bind fun t475 => (some t475)) else (some false))) = some r := h
 clear h
 obtain ⟨t474, A2, H⟩ := ob H
 try dsimp only at H
 by_cases c3 : t474 = true
 ·subst c3
  replace H := ifT H
  obtain ⟨t475, A4, H⟩ := ob H
  try dsimp only at H
  obtain rfl := Option.some.inj H
  go_enter Tryz.func109, Tryz.ntmps109
  go_wp2_with (first | ((with_reducible refine gd 1 rfl ?_); refine bx #[.int .i64 a0_0, .int .i64 a0_1, .int .i64 a0_2, .int .i64 a0_3] 27 ?_; intro gb473 hg w5 BK473 hb; have GE473 := ngw0 hg HB; replace HB := bS0 HB hb; clear hb hg; obtain ⟨hcz6_0, hcz6_1, hcz6_2, hcz6_3, hfz6_0, hfz6_1, hfz6_2, hfz6_3⟩ := bz4 BK473) | ((with_reducible refine gate_callee (f := 68) rfl ?_); refine gl 8 Tryz.func68 #[.agg #[.int .i64 a0_0, .int .i64 a0_1]] ?_; (with_reducible refine (spec_IsVec.calls _ _ _ _ A2.out).mono ?_); rintro e w7 ⟨rfl, hb⟩; refine ⟨_, rfl, ?_⟩; replace BK473 := bB BK473 hb; replace HB := bS1 HB GE473 hb; (try clear hb); obtain ⟨hcz8_0, hcz8_1, hcz8_2, hcz8_3, hfz8_0, hfz8_1, hfz8_2, hfz8_3⟩ := bz4 BK473) | (go_at_call 68; (with_reducible refine (spec_IsVec.calls _ _ _ _ A4.out).mono ?_); rintro e w9 ⟨rfl, hb⟩; replace BK473 := bB BK473 hb; replace HB := bS1 HB GE473 hb; (try clear hb)))
  go_ret
  exact er (bbw1 HB GE473)
 ·replace c3 := Bool.eq_false_iff.mpr c3
  subst c3
  replace H := ifF H
  obtain rfl := Option.some.inj H
  go_enter Tryz.func109, Tryz.ntmps109
  go_wp2_with (first | ((with_reducible refine gd 1 rfl ?_); refine bx #[.int .i64 a0_0, .int .i64 a0_1, .int .i64 a0_2, .int .i64 a0_3] 27 ?_; intro gb473 hg w10 BK473 hb; have GE473 := ngw0 hg HB; replace HB := bS0 HB hb; clear hb hg; obtain ⟨hcz11_0, hcz11_1, hcz11_2, hcz11_3, hfz11_0, hfz11_1, hfz11_2, hfz11_3⟩ := bz4 BK473) | ((with_reducible refine gate_callee (f := 68) rfl ?_); refine gl 8 Tryz.func68 #[.agg #[.int .i64 a0_0, .int .i64 a0_1]] ?_; (with_reducible refine (spec_IsVec.calls _ _ _ _ A2.out).mono ?_); rintro e w12 ⟨rfl, hb⟩; refine ⟨_, rfl, ?_⟩; replace BK473 := bB BK473 hb; replace HB := bS1 HB GE473 hb; (try clear hb)))
  go_ret
  exact er (bbw1 HB GE473)
/-! ### spec_IsMat: function 95 -/
def spec_IsMat.f (a0_0 : Int) (a0_1 : Int) (a0_2 : Int) (a0_3 : Int) : Option (Bool) := (spec_l02Small.f a0_0 a0_1 a0_2 a0_3).bind fun t477 => (if t477 = true then ((spec_l02Det.f a0_0 a0_1 a0_2 a0_3).bind fun t478 => (if t478 = 1 then (some true) else ((spec_l02Det.f a0_0 a0_1 a0_2 a0_3).bind fun t479 => (some (t479 == (-1)))))) else (some false))
set_option maxHeartbeats 8000000 in
set_option maxRecDepth 100000 in
theorem spec_IsMat.calls (a0_0 : Int) (a0_1 : Int) (a0_2 : Int) (a0_3 : Int) (r : Bool) (w : World) (h : spec_IsMat.f a0_0 a0_1 a0_2 a0_3 = some r) :
  Calls Tryz.prog 95 #[.agg #[.int .i64 a0_0, .int .i64 a0_1, .int .i64 a0_2, .int .i64 a0_3]] w fun e w' => e = .returned (.bool r) ∧ Below w.heap.size w w' := by
 have hu27 := Tryz.underlying27
 have HB := asd (Below.refl w.heap.size w)
 have H : ((spec_l02Small.f a0_0 a0_1 a0_2 a0_3).bind fun t477 => (if t477 = true then ((spec_l02Det.f a0_0 a0_1 a0_2 a0_3).bind fun t478 => (if t478 = 1 then (some true) else ((spec_l02Det.f a0_0 a0_1 a0_2 a0_3).bind fun t479 => (some (t479 == (-1)))))) else (some false))) = some r := h
 clear h
 obtain ⟨t477, A2, H⟩ := ob H
 try dsimp only at H
 by_cases c3 : t477 = true
 ·subst c3
  replace H := ifT H
  obtain ⟨t478, A4, H⟩ := ob H
  try dsimp only at H
  by_cases c5 : t478 = 1
  ·rw [if_pos c5] at H
   have c5b0 : (t478 == 1) = true := beq_iff_eq.mpr c5
   have c5b1 : (t478 != 1) = false := bne_eq_false_iff_eq.mpr c5
   clear c5
   obtain rfl := Option.some.inj H
   go_enter Tryz.func95, Tryz.ntmps95
   go_wp2_with (first | ((with_reducible refine gd 1 rfl ?_); refine bx #[.int .i64 a0_0, .int .i64 a0_1, .int .i64 a0_2, .int .i64 a0_3] 27 ?_; intro gb476 hg w6 BK476 hb; have GE476 := ngw0 hg HB; replace HB := bS0 HB hb; clear hb hg; obtain ⟨hcz7_0, hcz7_1, hcz7_2, hcz7_3, hfz7_0, hfz7_1, hfz7_2, hfz7_3⟩ := bz4 BK476) | ((with_reducible refine gate_callee (f := 109) rfl ?_); refine gl 4 Tryz.func109 #[.agg #[.int .i64 a0_0, .int .i64 a0_1, .int .i64 a0_2, .int .i64 a0_3]] ?_; (with_reducible refine (spec_l02Small.calls _ _ _ _ _ _ A2.out).mono ?_); rintro e w8 ⟨rfl, hb⟩; refine ⟨_, rfl, ?_⟩; replace BK476 := bB BK476 hb; replace HB := bS1 HB GE476 hb; (try clear hb); obtain ⟨hcz9_0, hcz9_1, hcz9_2, hcz9_3, hfz9_0, hfz9_1, hfz9_2, hfz9_3⟩ := bz4 BK476) | (go_at_call 33; (with_reducible refine (spec_l02Det.calls _ _ _ _ _ _ A4.out).mono ?_); rintro e w10 ⟨rfl, hb⟩; replace BK476 := bB BK476 hb; replace HB := bS1 HB GE476 hb; (try clear hb)))
   go_ret
   exact er (bbw1 HB GE476)
  ·rw [if_neg c5] at H
   have c5b0 : (t478 == 1) = false := beq_eq_false_iff_ne.mpr c5
   have c5b1 : (t478 != 1) = true := bne_iff_ne.mpr c5
   obtain ⟨t479, A11, H⟩ := ob H
   try dsimp only at H
   have e_ : t478 = t479 := Option.some.inj (A4.out.symm.trans A11.out)
   subst e_
   obtain rfl := Option.some.inj H
   go_enter Tryz.func95, Tryz.ntmps95
   go_wp2_with (first | ((with_reducible refine gd 1 rfl ?_); refine bx #[.int .i64 a0_0, .int .i64 a0_1, .int .i64 a0_2, .int .i64 a0_3] 27 ?_; intro gb476 hg w12 BK476 hb; have GE476 := ngw0 hg HB; replace HB := bS0 HB hb; clear hb hg; obtain ⟨hcz13_0, hcz13_1, hcz13_2, hcz13_3, hfz13_0, hfz13_1, hfz13_2, hfz13_3⟩ := bz4 BK476) | ((with_reducible refine gate_callee (f := 109) rfl ?_); refine gl 4 Tryz.func109 #[.agg #[.int .i64 a0_0, .int .i64 a0_1, .int .i64 a0_2, .int .i64 a0_3]] ?_; (with_reducible refine (spec_l02Small.calls _ _ _ _ _ _ A2.out).mono ?_); rintro e w14 ⟨rfl, hb⟩; refine ⟨_, rfl, ?_⟩; replace BK476 := bB BK476 hb; replace HB := bS1 HB GE476 hb; (try clear hb); obtain ⟨hcz15_0, hcz15_1, hcz15_2, hcz15_3, hfz15_0, hfz15_1, hfz15_2, hfz15_3⟩ := bz4 BK476) | (go_at_call 33; (with_reducible refine (spec_l02Det.calls _ _ _ _ _ _ A4.out).mono ?_); rintro e w16 ⟨rfl, hb⟩; replace BK476 := bB BK476 hb; replace HB := bS1 HB GE476 hb; (try clear hb); obtain ⟨hcz17_0, hcz17_1, hcz17_2, hcz17_3, hfz17_0, hfz17_1, hfz17_2, hfz17_3⟩ := bz4 BK476) | (go_at_call 33; (with_reducible refine (spec_l02Det.calls _ _ _ _ _ _ A11.out).mono ?_); rintro e w18 ⟨rfl, hb⟩; replace BK476 := bB BK476 hb; replace HB := bS1 HB GE476 hb; (try clear hb)))
   go_ret
   exact er (bbw1 HB GE476)
 ·replace c3 := Bool.eq_false_iff.mpr c3
  subst c3
  replace H := ifF H
  obtain rfl := Option.some.inj H
  go_enter Tryz.func95, Tryz.ntmps95
  go_wp2_with (first | ((with_reducible refine gd 1 rfl ?_); refine bx #[.int .i64 a0_0, .int .i64 a0_1, .int .i64 a0_2, .int .i64 a0_3] 27 ?_; intro gb476 hg w19 BK476 hb; have GE476 := ngw0 hg HB; replace HB := bS0 HB hb; clear hb hg; obtain ⟨hcz20_0, hcz20_1, hcz20_2, hcz20_3, hfz20_0, hfz20_1, hfz20_2, hfz20_3⟩ := bz4 BK476) | ((with_reducible refine gate_callee (f := 109) rfl ?_); refine gl 4 Tryz.func109 #[.agg #[.int .i64 a0_0, .int .i64 a0_1, .int .i64 a0_2, .int .i64 a0_3]] ?_; (with_reducible refine (spec_l02Small.calls _ _ _ _ _ _ A2.out).mono ?_); rintro e w21 ⟨rfl, hb⟩; refine ⟨_, rfl, ?_⟩; replace BK476 := bB BK476 hb; replace HB := bS1 HB GE476 hb; (try clear hb)))
  go_ret
  exact er (bbw1 HB GE476)
/-! ### spec_IsPointMat: function 66 -/
def spec_IsPointMat.f (a0 : Int) (a1_0 : Int) (a1_1 : Int) (a1_2 : Int) (a1_3 : Int) : Option (Bool) := (spec_IsFrame.f a0).bind fun t481 => (if t481 = true then ((spec_IsMat.f a1_0 a1_1 a1_2 a1_3).bind fun t482 => (if t482 = true then ((spec_l04Keeps.f a0 a1_0 a1_1 a1_2 a1_3).bind fun t483 => (some t483)) else (some false))) else (some false))
set_option maxHeartbeats 8000000 in
set_option maxRecDepth 100000 in
theorem spec_IsPointMat.calls (a0 : Int) (a1_0 : Int) (a1_1 : Int) (a1_2 : Int) (a1_3 : Int) (r : Bool) (w : World) (h : spec_IsPointMat.f a0 a1_0 a1_1 a1_2 a1_3 = some r) :
  Calls Tryz.prog 66 #[.int .i64 a0, .agg #[.int .i64 a1_0, .int .i64 a1_1, .int .i64 a1_2, .int .i64 a1_3]] w fun e w' => e = .returned (.bool r) ∧ Below w.heap.size w w' := by
 have hu27 := Tryz.underlying27
 have HB := asd (Below.refl w.heap.size w)
 have H : ((spec_IsFrame.f a0).bind fun t481 => (if t481 = true then ((spec_IsMat.f a1_0 a1_1 a1_2 a1_3).bind fun t482 => (if t482 = true then ((spec_l04Keeps.f a0 a1_0 a1_1 a1_2 a1_3).bind fun t483 => (some t483)) else (some false))) else (some false))) = some r := h
 clear h
 obtain ⟨t481, A3, H⟩ := ob H
 try dsimp only at H
 by_cases c4 : t481 = true
 ·subst c4
  replace H := ifT H
  obtain ⟨t482, A5, H⟩ := ob H
  try dsimp only at H
  by_cases c6 : t482 = true
  ·subst c6
   replace H := ifT H
   obtain ⟨t483, A7, H⟩ := ob H
   try dsimp only at H
   obtain rfl := Option.some.inj H
   go_enter Tryz.func66, Tryz.ntmps66
   go_wp2_with (first | ((with_reducible refine gd 3 rfl ?_); refine bx #[.int .i64 a1_0, .int .i64 a1_1, .int .i64 a1_2, .int .i64 a1_3] 27 ?_; intro gb480 hg w8 BK480 hb; have GE480 := ngw0 hg HB; replace HB := bS0 HB hb; clear hb hg) | ((with_reducible refine gate_callee (f := 90) rfl ?_); refine gl 6 Tryz.func90 #[.int .i64 a0] ?_; (with_reducible refine (spec_IsFrame.calls _ _ _ A3.out).mono ?_); rintro e w' ⟨rfl, ⟨nd, rfl⟩⟩; refine ⟨_, rfl, ?_⟩; have hcz9_0 : w8.cell? ⟨gb480, 0, none⟩ = some (.int .i64 a1_0) := bcl BK480 0; have hcz9_1 : w8.cell? ⟨gb480, 1, none⟩ = some (.int .i64 a1_1) := bcl BK480 1; have hcz9_2 : w8.cell? ⟨gb480, 2, none⟩ = some (.int .i64 a1_2) := bcl BK480 2; have hcz9_3 : w8.cell? ⟨gb480, 3, none⟩ = some (.int .i64 a1_3) := bcl BK480 3; have hfz9_0 := blk_frozen BK480.out 0; have hfz9_1 := blk_frozen BK480.out 1; have hfz9_2 := blk_frozen BK480.out 2; have hfz9_3 := blk_frozen BK480.out 3) | (go_at_call 95; (with_reducible refine (spec_IsMat.calls _ _ _ _ _ _ A5.out).mono ?_); rintro e w10 ⟨rfl, hb⟩; replace BK480 := bB BK480 hb; replace HB := bS1 HB GE480 hb; (try clear hb); obtain ⟨hcz11_0, hcz11_1, hcz11_2, hcz11_3, hfz11_0, hfz11_1, hfz11_2, hfz11_3⟩ := bz4 BK480) | (go_at_call 96; (with_reducible refine (spec_l04Keeps.calls _ _ _ _ _ _ _ A7.out).mono ?_); rintro e w12 ⟨rfl, hb⟩; replace BK480 := bB BK480 hb; replace HB := bS1 HB GE480 hb; (try clear hb)))
   go_ret
   exact er (bbw1 HB GE480)
  ·replace c6 := Bool.eq_false_iff.mpr c6
   subst c6
   replace H := ifF H
   obtain rfl := Option.some.inj H
   go_enter Tryz.func66, Tryz.ntmps66
   go_wp2_with (first | ((with_reducible refine gd 3 rfl ?_); refine bx #[.int .i64 a1_0, .int .i64 a1_1, .int .i64 a1_2, .int .i64 a1_3] 27 ?_; intro gb480 hg w13 BK480 hb; have GE480 := ngw0 hg HB; replace HB := bS0 HB hb; clear hb hg) | ((with_reducible refine gate_callee (f := 90) rfl ?_); refine gl 6 Tryz.func90 #[.int .i64 a0] ?_; (with_reducible refine (spec_IsFrame.calls _ _ _ A3.out).mono ?_); rintro e w' ⟨rfl, ⟨nd, rfl⟩⟩; refine ⟨_, rfl, ?_⟩; have hcz14_0 : w13.cell? ⟨gb480, 0, none⟩ = some (.int .i64 a1_0) := bcl BK480 0; have hcz14_1 : w13.cell? ⟨gb480, 1, none⟩ = some (.int .i64 a1_1) := bcl BK480 1; have hcz14_2 : w13.cell? ⟨gb480, 2, none⟩ = some (.int .i64 a1_2) := bcl BK480 2; have hcz14_3 : w13.cell? ⟨gb480, 3, none⟩ = some (.int .i64 a1_3) := bcl BK480 3; have hfz14_0 := blk_frozen BK480.out 0; have hfz14_1 := blk_frozen BK480.out 1; have hfz14_2 := blk_frozen BK480.out 2; have hfz14_3 := blk_frozen BK480.out 3) | (go_at_call 95; (with_reducible refine (spec_IsMat.calls _ _ _ _ _ _ A5.out).mono ?_); rintro e w15 ⟨rfl, hb⟩; replace BK480 := bB BK480 hb; replace HB := bS1 HB GE480 hb; (try clear hb)))
   go_ret
   exact er (bbw1 HB GE480)
 ·replace c4 := Bool.eq_false_iff.mpr c4
  subst c4
  replace H := ifF H
  obtain rfl := Option.some.inj H
  go_enter Tryz.func66, Tryz.ntmps66
  go_wp2_with (first | ((with_reducible refine gd 3 rfl ?_); refine bx #[.int .i64 a1_0, .int .i64 a1_1, .int .i64 a1_2, .int .i64 a1_3] 27 ?_; intro gb480 hg w16 BK480 hb; have GE480 := ngw0 hg HB; replace HB := bS0 HB hb; clear hb hg) | ((with_reducible refine gate_callee (f := 90) rfl ?_); refine gl 6 Tryz.func90 #[.int .i64 a0] ?_; (with_reducible refine (spec_IsFrame.calls _ _ _ A3.out).mono ?_); rintro e w' ⟨rfl, ⟨nd, rfl⟩⟩; refine ⟨_, rfl, ?_⟩))
  go_ret
  exact er (bbw1 HB GE480)

end Go.Proofs.YtedmadofpdkekaaGreat.PA
