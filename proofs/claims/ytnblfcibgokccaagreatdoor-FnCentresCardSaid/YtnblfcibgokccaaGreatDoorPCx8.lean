/- Walks written by program: each Go function that the law reaches comes to the plain function beside it. -/
import Derived.Test.YtnblfcibgokccaaGreatDoorPCx0
import Derived.Test.YtnblfcibgokccaaGreatDoorPCx1
import Derived.Test.YtnblfcibgokccaaGreatDoorPCx3
import Derived.Test.YtnblfcibgokccaaGreatDoorPCx4
import Derived.Test.YtnblfcibgokccaaGreatDoorPCx6
import Derived.Test.YtnblfcibgokccaaGreatDoorPCx7
namespace Go.Proofs.YtnblfcibgokccaaGreatDoor.PC
open Go.RowKit Go.Proofs.YtnblfcibgokccaaGreatDoorW.PrintWords Go.Proofs.YtnblfcibgokccaaGreatDoorW.PrintLast Go.Proofs.YtnblfcibgokccaaGreatDoorW.PrintMore
attribute [local go_sem] max2_int min2_int max_two min_two max_three min_three max_four min_four   -- for this text's walks alone
set_option linter.unusedVariables false
set_option linter.unusedSimpArgs false

attribute [local go_sem high] eqA25 eqA29
/-! ### impl_Motion_kind: function 35 -/
def impl_Motion_kind.f (a0_0 : Int) (a0_1 : Int) (a0_2 : Int) (a0_3 : Int) (a0_4 : Int) (a0_5 : Int) : Option (Int) := (impl_unit.f).bind fun bt370 => (if ((a0_0 == bt370.1 && (a0_1 == bt370.2.1 && (a0_2 == bt370.2.2.1 && (a0_3 == bt370.2.2.2)))) && ((a0_4 == 0 && (a0_5 == 0)))) = true then (some 0) else ((impl_unit.f).bind fun bt374 => (if (a0_0 == bt374.1 && (a0_1 == bt374.2.1 && (a0_2 == bt374.2.2.1 && (a0_3 == bt374.2.2.2)))) = true then (some 1) else ((impl_Mat_det.f a0_0 a0_1 a0_2 a0_3).bind fun t378 => (if t378 = 1 then (some 2) else ((impl_Motion_times.f a0_0 a0_1 a0_2 a0_3 a0_4 a0_5 a0_0 a0_1 a0_2 a0_3 a0_4 a0_5).bind fun bt379 => ((impl_unit.f).bind fun bt385 => (if ((bt379.1 == bt385.1 && (bt379.2.1 == bt385.2.1 && (bt379.2.2.1 == bt385.2.2.1 && (bt379.2.2.2.1 == bt385.2.2.2)))) && ((bt379.2.2.2.2.1 == 0 && (bt379.2.2.2.2.2 == 0)))) = true then (some 3) else (some 4)))))))))
set_option maxHeartbeats 8000000 in
set_option maxRecDepth 100000 in
theorem impl_Motion_kind.calls (a0_0 : Int) (a0_1 : Int) (a0_2 : Int) (a0_3 : Int) (a0_4 : Int) (a0_5 : Int) (r : Int) (w : World) (h : impl_Motion_kind.f a0_0 a0_1 a0_2 a0_3 a0_4 a0_5 = some r) :
  Calls Tryz.prog 35 #[.agg #[.int .i64 a0_0, .int .i64 a0_1, .int .i64 a0_2, .int .i64 a0_3, .int .i64 a0_4, .int .i64 a0_5]] w fun e w' => e = .returned (.int .i64 r) ∧ Below w.heap.size w w' := by
 have hu29 := Tryz.underlying29
 have hu25 := Tryz.underlying25
 have HB := asd (Below.refl w.heap.size w)
 have H : ((impl_unit.f).bind fun bt370 => (if ((a0_0 == bt370.1 && (a0_1 == bt370.2.1 && (a0_2 == bt370.2.2.1 && (a0_3 == bt370.2.2.2)))) && ((a0_4 == 0 && (a0_5 == 0)))) = true then (some 0) else ((impl_unit.f).bind fun bt374 => (if (a0_0 == bt374.1 && (a0_1 == bt374.2.1 && (a0_2 == bt374.2.2.1 && (a0_3 == bt374.2.2.2)))) = true then (some 1) else ((impl_Mat_det.f a0_0 a0_1 a0_2 a0_3).bind fun t378 => (if t378 = 1 then (some 2) else ((impl_Motion_times.f a0_0 a0_1 a0_2 a0_3 a0_4 a0_5 a0_0 a0_1 a0_2 a0_3 a0_4 a0_5).bind fun bt379 => ((impl_unit.f).bind fun bt385 => (if ((bt379.1 == bt385.1 && (bt379.2.1 == bt385.2.1 && (bt379.2.2.1 == bt385.2.2.1 && (bt379.2.2.2.1 == bt385.2.2.2)))) && ((bt379.2.2.2.2.1 == 0 && (bt379.2.2.2.2.2 == 0)))) = true then (some 3) else (some 4)))))))))) = some r := h
 clear h
 obtain ⟨⟨t370, t371, t372, t373⟩, A2, H⟩ := ob H
 try dsimp only at H
 by_cases c3 : ((a0_0 == t370 && (a0_1 == t371 && (a0_2 == t372 && (a0_3 == t373)))) && ((a0_4 == 0 && (a0_5 == 0)))) = true
 rw [if_pos c3] at H
 have c3b0 := c3
 clear c3
 obtain rfl := Option.some.inj H
 rotate_left
 rw [if_neg c3] at H
 have c3b0 : ((a0_0 == t370 && (a0_1 == t371 && (a0_2 == t372 && (a0_3 == t373)))) && ((a0_4 == 0 && (a0_5 == 0)))) = false := by simpa using c3
 clear c3
 obtain ⟨⟨t374, t375, t376, t377⟩, A7, H⟩ := ob H
 try dsimp only at H
 by_cases c8 : (a0_0 == t374 && (a0_1 == t375 && (a0_2 == t376 && (a0_3 == t377)))) = true
 rw [if_pos c8] at H
 have c8b0 := c8
 (try (have c8b1 : decide (a0_0 = t374 && (a0_1 == t375 && (a0_2 == t376 && (a0_3 == t377)))) = true := by simpa using c8))
 (try (have c8b2 : (a0_0 == t374 && (a0_1 == t375 && (a0_2 == t376 && (a0_3 == t377)))) = true := by simpa using c8))
 clear c8
 obtain rfl := Option.some.inj H
 rotate_left
 rw [if_neg c8] at H
 have c8b0 : (a0_0 == t374 && (a0_1 == t375 && (a0_2 == t376 && (a0_3 == t377)))) = false := by simpa using c8
 (try (have c8b1 : decide (a0_0 = t374 && (a0_1 == t375 && (a0_2 == t376 && (a0_3 == t377)))) = false := by simpa using c8))
 (try (have c8b2 : (a0_0 == t374 && (a0_1 == t375 && (a0_2 == t376 && (a0_3 == t377)))) = false := by simpa using c8))
 (try (have c8b3 : ¬ (a0_0 = t374 && (a0_1 == t375 && (a0_2 == t376 && (a0_3 == t377)))) := by simpa using c8))
 clear c8
 obtain ⟨t378, A14, H⟩ := ob H
 try dsimp only at H
 by_cases c15 : t378 = 1
 rw [if_pos c15] at H
 have c15b0 : (t378 == 1) = true := beq_iff_eq.mpr c15
 have c15b1 : (t378 != 1) = false := bne_eq_false_iff_eq.mpr c15
 clear c15
 obtain rfl := Option.some.inj H
 rotate_left
 rw [if_neg c15] at H
 have c15b0 : (t378 == 1) = false := beq_eq_false_iff_ne.mpr c15
 have c15b1 : (t378 != 1) = true := bne_iff_ne.mpr c15
 obtain ⟨⟨t379, t380, t381, t382, t383, t384⟩, A23, H⟩ := ob H
 try dsimp only at H
 obtain ⟨⟨t385, t386, t387, t388⟩, A24, H⟩ := ob H
 try dsimp only at H
 by_cases c25 : ((t379 == t385 && (t380 == t386 && (t381 == t387 && (t382 == t388)))) && ((t383 == 0 && (t384 == 0)))) = true
 rw [if_pos c25] at H
 have c25b0 := c25
 clear c25
 obtain rfl := Option.some.inj H
 rotate_left
 rw [if_neg c25] at H
 have c25b0 : ((t379 == t385 && (t380 == t386 && (t381 == t387 && (t382 == t388)))) && ((t383 == 0 && (t384 == 0)))) = false := by simpa using c25
 clear c25
 obtain rfl := Option.some.inj H
 rotate_left
 all_goals
  go_enter Tryz.func35, Tryz.ntmps35
  try go_wp2_with (first | ((with_reducible refine gd 1 rfl ?_); refine bx #[.int .i64 a0_0, .int .i64 a0_1, .int .i64 a0_2, .int .i64 a0_3, .int .i64 a0_4, .int .i64 a0_5] 29 ?_; intro gb369 hg w4 BK369 hb; have GE369 := ngw0 hg HB; replace HB := bS0 HB hb; clear hb hg))
  replace BK369 := asd (blk_drew BK369.out)
  replace HB := asd (below_drew1 HB.out)
  refine sh 5 (eb6 BK369) (fun hHeld => ?_)
  generalize w4.drew = w5 at BK369 HB hHeld ⊢
  refine take_ (i := 0) (N := some 4) (v := ?_) (a' := ?_) (bT 5 1) rfl rfl (by kernel_rfl) (fun _ _ _ h => h) (Or.inl ⟨by rfl, ?_⟩) hHeld ?_ ?_
  rotate_left
  ·rintro w' ⟨s0, s1, s2, s3, s4, s5⟩
   go_simp
   with_reducible rfl
  rotate_left
  ·simp only [Act.put, sA, sB, sC, i64_w, i32_w]
   rfl
  refine one_ (i := 1) (N := some 5) (bT 5 2) rfl rfl (by kernel_rfl) (by decide) (fun K hK => ?_)
  refine gs Tryz.func85 #[] ?_
  with_reducible refine (impl_unit.calls _ _ _ _ _ A2.out).mono ?_
  rintro e w6 ⟨rfl, hb⟩
  refine ⟨_, rfl, ?_⟩
  replace BK369 := bB BK369 hb
  replace HB := bS1 HB GE369 hb
  (try clear hb)
  (try clear hb2)
  (try clear hk)
  (try clear hi)
  refine hK.out _ _ (eb6 BK369).out (fun hHeld => ?_)
  clear hK K
  refine norm_ (a' := ?_) ?_ ?_
  rotate_left
  ·show Act.put _ (some 5) _ = _
   simp only [Act.put, sA, sB, sC, i64_w, i32_w]
   rfl
  refine pure_ (i := 2) (N := some 6) (v := ?_) (a' := ?_) (bT 5 3) rfl rfl (by kernel_rfl) (fun _ _ _ h => h) (Or.inl ⟨by rfl, ?_⟩) ?_ ?_
  rotate_left
  ·intro w'
   go_simp
   with_reducible rfl
  rotate_left
  ·simp only [Act.put, sA, sB, sC, i64_w, i32_w]
   rfl
  refine pure_ (i := 3) (N := some 7) (v := ?_) (a' := ?_) (bT 5 4) rfl rfl (by kernel_rfl) (fun _ _ _ h => h) (Or.inl ⟨by rfl, ?_⟩) ?_ ?_
  rotate_left
  ·intro w'
   go_simp
   with_reducible rfl
  rotate_left
  ·simp only [Act.put, sA, sB, sC, i64_w, i32_w]
   rfl
  refine pure_ (i := 4) (N := some 3) (v := ?_) (a' := ?_) (bT 5 5) rfl rfl (by kernel_rfl) (fun _ _ _ h => h) (Or.inl ⟨by rfl, ?_⟩) ?_ ?_
  rotate_left
  ·intro w'
   go_simp
   with_reducible rfl
  rotate_left
  ·simp only [Act.put, sA, sB, sC, i64_w, i32_w]
   rfl
  refine done_ (by kernel_rfl) ?_
  try go_wp2
 ·go_ret
  exact er (bbw1 HB GE369)
 rotate_left 4
 all_goals
  replace BK369 := asd (blk_drew BK369.out)
  replace HB := asd (below_drew1 HB.out)
  refine sh 5 (eb6 BK369) (fun hHeld => ?_)
 generalize w6.drew = w12 at BK369 HB hHeld ⊢
 rotate_left
 generalize w6.drew = w19 at BK369 HB hHeld ⊢
 rotate_left
 generalize w6.drew = w29 at BK369 HB hHeld ⊢
 rotate_left
 generalize w6.drew = w39 at BK369 HB hHeld ⊢
 rotate_left
 all_goals
  refine pure_ (i := 0) (N := some 9) (v := ?_) (a' := ?_) (bT 5 1) rfl rfl (by kernel_rfl) (fun _ _ _ h => h) (Or.inl ⟨by rfl, ?_⟩) ?_ ?_
  rotate_left
  ·intro w'
   go_simp
   with_reducible rfl
  rotate_left
  ·simp only [Act.put, sA, sB, sC, i64_w, i32_w]
   rfl
  refine take_ (i := 1) (N := some 10) (v := ?_) (a' := ?_) (bT 5 2) rfl rfl (by kernel_rfl) (fun _ _ _ h => h) (Or.inl ⟨by rfl, ?_⟩) hHeld ?_ ?_
  rotate_left
  ·rintro w' ⟨s0, s1, s2, s3, s4, s5⟩
   go_simp
   with_reducible rfl
  rotate_left
  ·simp only [Act.put, sA, sB, sC, i64_w, i32_w]
   rfl
  refine one_ (i := 2) (N := some 11) (bT 5 3) rfl rfl (by kernel_rfl) (by decide) (fun K hK => ?_)
  refine gs Tryz.func85 #[] ?_
  with_reducible refine (impl_unit.calls _ _ _ _ _ A7.out).mono ?_
  rintro e w13 ⟨rfl, hb⟩
  refine ⟨_, rfl, ?_⟩
  replace BK369 := bB BK369 hb
  replace HB := bS1 HB GE369 hb
  (try clear hb)
  (try clear hb2)
  (try clear hk)
  (try clear hi)
  refine hK.out _ _ (eb6 BK369).out (fun hHeld => ?_)
  clear hK K
  refine norm_ (a' := ?_) ?_ ?_
  rotate_left
  ·show Act.put _ (some 11) _ = _
   simp only [Act.put, sA, sB, sC, i64_w, i32_w]
   rfl
  refine pure_ (i := 3) (N := some 12) (v := ?_) (a' := ?_) (bT 5 4) rfl rfl (by kernel_rfl) (fun _ _ _ h => h) (Or.inl ⟨by rfl, ?_⟩) ?_ ?_
  rotate_left
  ·intro w'
   go_simp
   with_reducible rfl
  rotate_left
  ·simp only [Act.put, sA, sB, sC, i64_w, i32_w]
   rfl
  refine pure_ (i := 4) (N := some 8) (v := ?_) (a' := ?_) (bT 5 5) rfl rfl (by kernel_rfl) (fun _ _ _ h => h) (Or.inl ⟨by rfl, ?_⟩) ?_ ?_
  rotate_left
  ·intro w'
   go_simp
   with_reducible rfl
  rotate_left
  ·simp only [Act.put, sA, sB, sC, i64_w, i32_w]
   rfl
  refine done_ (by kernel_rfl) ?_
 ·try go_wp2
  go_ret
  exact er (bbw1 HB GE369)
 rotate_left 3
 all_goals
  obtain ⟨hcz21_0, hcz21_1, hcz21_2, hcz21_3, hcz21_4, hcz21_5, hfz21_0, hfz21_1, hfz21_2, hfz21_3, hfz21_4, hfz21_5⟩ := bz6 BK369
 ·try go_wp2_with (first | ((with_reducible refine gate_callee (f := 86) rfl ?_); refine gl 16 Tryz.func86 #[.agg #[.int .i64 a0_0, .int .i64 a0_1, .int .i64 a0_2, .int .i64 a0_3]] ?_; (with_reducible refine (impl_Mat_det.calls _ _ _ _ _ _ A14.out).mono ?_); rintro e w22 ⟨rfl, hb⟩; refine ⟨_, rfl, ?_⟩; replace BK369 := bB BK369 hb; replace HB := bS1 HB GE369 hb; (try clear hb)))
  go_ret
  exact er (bbw1 HB GE369)
 rotate_left 2
 all_goals
  try go_wp2_with (first | ((with_reducible refine gate_callee (f := 86) rfl ?_); refine gl 16 Tryz.func86 #[.agg #[.int .i64 a0_0, .int .i64 a0_1, .int .i64 a0_2, .int .i64 a0_3]] ?_; (with_reducible refine (impl_Mat_det.calls _ _ _ _ _ _ A14.out).mono ?_); rintro e w32 ⟨rfl, hb⟩; refine ⟨_, rfl, ?_⟩; replace BK369 := bB BK369 hb; replace HB := bS1 HB GE369 hb; (try clear hb); obtain ⟨hcz33_0, hcz33_1, hcz33_2, hcz33_3, hcz33_4, hcz33_5, hfz33_0, hfz33_1, hfz33_2, hfz33_3, hfz33_4, hfz33_5⟩ := bz6 BK369) | ((with_reducible refine gate_callee (f := 87) rfl ?_); refine gl 21 Tryz.func87 #[.agg #[.int .i64 a0_0, .int .i64 a0_1, .int .i64 a0_2, .int .i64 a0_3, .int .i64 a0_4, .int .i64 a0_5], .agg #[.int .i64 a0_0, .int .i64 a0_1, .int .i64 a0_2, .int .i64 a0_3, .int .i64 a0_4, .int .i64 a0_5]] ?_; (with_reducible refine (impl_Motion_times.calls _ _ _ _ _ _ _ _ _ _ _ _ _ _ _ _ _ _ _ A23.out).mono ?_); rintro e w34 ⟨rfl, hb⟩; refine ⟨_, rfl, ?_⟩; replace BK369 := bB BK369 hb; replace HB := bS1 HB GE369 hb; (try clear hb)) | ((with_reducible refine gate_callee (f := 85) rfl ?_); refine gl 22 Tryz.func85 #[] ?_; (with_reducible refine (impl_unit.calls _ _ _ _ _ A24.out).mono ?_); rintro e w35 ⟨rfl, hb⟩; refine ⟨_, rfl, ?_⟩; replace BK369 := bB BK369 hb; replace HB := bS1 HB GE369 hb; (try clear hb)))
  go_ret
  exact er (bbw1 HB GE369)
/-! ### impl_gcd: function 54 -/
def impl_gcd.l0 : Nat → Int → Int → Option (Int)
 | 0, _, _ => none
 | k + 1, x0, x1 => if x1 = 0 then (some (mx x0 (wrap64 (-x0)))) else (impl_gcd.l0 k x1 (Int.tmod x0 x1))
def impl_gcd.f (k : Nat) (a0 : Int) (a1 : Int) : Option (Int) := impl_gcd.l0 k a0 a1
set_option maxHeartbeats 8000000 in
set_option maxRecDepth 100000 in
theorem impl_gcd.calls (k : Nat) (a0 : Int) (a1 : Int) (r : Int) (w : World) (h : impl_gcd.f k a0 a1 = some r) :
  Calls Tryz.prog 54 #[.int .i64 a0, .int .i64 a1] w fun e w' => e = .returned (.int .i64 r) ∧ Below w.heap.size w w' := by
 have HB := asd (Below.refl w.heap.size w)
 have H : (impl_gcd.l0 k a0 a1) = some r := h
 clear h
 have H' := Aside0.mk H
 clear H
 go_enter Tryz.func54, Tryz.ntmps54
 go_wp2
 repeat (go_quiet (fail); try go_wp2)
 go_loopg [0, 1] k (fun kq v0 v1 w' => ∃ (x0_1 : Int) (x1_1 : Int), v0 = .int .i64 x0_1 ∧ v1 = .int .i64 x1_1 ∧ Aside0 (impl_gcd.l0 kq x0_1 x1_1 = some r) ∧ Aside0 (kq ≤ k) ∧ Aside0 (Below w.heap.size w w'))
 case atStart => exact ⟨(a0), (a1), (by first | rfl | (simp; done) | (simp [*]; done)), (by first | rfl | (simp; done) | (simp [*]; done)), H', ⟨Nat.le_refl _⟩, ⟨bbw0 HB⟩⟩
 case round =>
  clear H'
  try clear p2
  obtain ⟨x0_1, x1_1, rfl, rfl, HA, HK1, HB⟩ := hrel
  cases gk with
  | zero => exact absurd HA.out (by simp [impl_gcd.l0])
  | succ k1 =>
   have H := HA.out
   clear HA
   simp only [impl_gcd.l0] at H
   by_cases c3 : x1_1 = 0
   ·rw [if_pos c3] at H
    have c3b0 : (x1_1 == 0) = true := beq_iff_eq.mpr c3
    have c3b1 : (x1_1 != 0) = false := bne_eq_false_iff_eq.mpr c3
    clear c3
    obtain ⟨ji4, hji4⟩ : ∃ j_ : Int, (mx x0_1 (wrap64 (-x0_1))) = j_ := ⟨_, rfl⟩
    replace H : (some ji4) = some r := by first | (rw [hji4] at H; first | done | exact H) | (simp only [hji4] at H ⊢; exact H)
    have hji4_ : (if x0_1 < (wrap64 (-x0_1)) then (wrap64 (-x0_1)) else x0_1) = ji4 := hji4
    obtain rfl := Option.some.inj H
    go_wp2
    repeat (go_quiet (fail); try go_wp2)
    go_ret
    exact ⟨by first | rfl | (simp [errW_none, errW_some] <;> rfl) | (simp only [← hji4]; first | rfl | (simp [errW_none, errW_some] <;> rfl)) | (simp [*, errW_none, errW_some] <;> rfl), bbw0 HB⟩
   ·rw [if_neg c3] at H
    have c3b0 : (x1_1 == 0) = false := beq_eq_false_iff_ne.mpr c3
    have c3b1 : (x1_1 != 0) = true := bne_iff_ne.mpr c3
    have H' := Aside0.mk H
    clear H
    go_wp2
    repeat (go_quiet (fail); try go_wp2)
    go_roundg k1
    case measure => have := HK1.out; omega
    case rel => exact ⟨(x1_1), (Int.tmod x0_1 x1_1), (by first | rfl | (simp; done) | (simp [*]; done)), (by first | rfl | (simp; done) | (simp [*]; done)), H', ⟨by have := HK1.out; omega⟩, ⟨bbw0 HB⟩⟩

attribute [local go_sem high] eqA25
/-! ### impl_Motion_centre: function 36 -/
def impl_Motion_centre.f (k : Nat) (a0_0 : Int) (a0_1 : Int) (a0_2 : Int) (a0_3 : Int) (a0_4 : Int) (a0_5 : Int) : Option (Int × Int × Int) := (impl_gcd.f k (wrap64 ((wrap64 ((wrap64 (1 - a0_3)) * a0_4)) + (wrap64 (a0_1 * a0_5)))) (wrap64 ((wrap64 (a0_2 * a0_4)) + (wrap64 ((wrap64 (1 - a0_0)) * a0_5))))).bind fun t392 => ((impl_gcd.f k t392 (wrap64 ((wrap64 (2 - a0_0)) - a0_3))).bind fun t393 => (if t393 = 0 then (none) else (some (wrap64 (Int.tdiv (wrap64 ((wrap64 ((wrap64 (1 - a0_3)) * a0_4)) + (wrap64 (a0_1 * a0_5)))) t393), wrap64 (Int.tdiv (wrap64 ((wrap64 (a0_2 * a0_4)) + (wrap64 ((wrap64 (1 - a0_0)) * a0_5)))) t393), wrap64 (Int.tdiv (wrap64 ((wrap64 (2 - a0_0)) - a0_3)) t393)))))
def impl_Motion_centre.T4 : Bool × List (List Nat × List Nat) := (true, [([], []), ([0], [0]), ([], []), ([1, 2], [1, 2]), ([], []), ([4], [4]), ([], []), ([5, 6], [5, 6]), ([3, 7], [3, 7]), ([], []), ([], []), ([9, 10], [9, 10]), ([8, 0, 1, 2, 3, 4, 5, 6, 7, 8], [8]), ([11, 12, 0, 1, 2, 3, 4, 5, 6, 7, 8, 9, 10, 11, 12], [11])])
def impl_Motion_centre.B4 : List Nat := [0, 1, 0, 7, 0, 16, 0, 112, 255, 0, 0, 1536, 511, 8191]
theorem impl_Motion_centre.tab4 : rtab .any (opsOf Tryz.f36 4) = impl_Motion_centre.T4 := by kernel_rfl
theorem impl_Motion_centre.bits4 : waitsOk impl_Motion_centre.T4.2 impl_Motion_centre.B4 = true := by kernel_rfl
set_option maxHeartbeats 8000000 in
set_option maxRecDepth 100000 in
theorem impl_Motion_centre.calls (k : Nat) (a0_0 : Int) (a0_1 : Int) (a0_2 : Int) (a0_3 : Int) (a0_4 : Int) (a0_5 : Int) (r1 : Int) (r2 : Int) (r3 : Int) (w : World) (h : impl_Motion_centre.f k a0_0 a0_1 a0_2 a0_3 a0_4 a0_5 = some (r1, r2, r3)) :
  Calls Tryz.prog 36 #[.agg #[.int .i64 a0_0, .int .i64 a0_1, .int .i64 a0_2, .int .i64 a0_3, .int .i64 a0_4, .int .i64 a0_5]] w fun e w' => e = .returned (.tuple #[.agg #[.int .i64 r1, .int .i64 r2], .int .i64 r3]) ∧ Below w.heap.size w w' := by
 have hu29 := Tryz.underlying29
 have hu27 := Tryz.underlying27
 have HB := asd (Below.refl w.heap.size w)
 have H : ((impl_gcd.f k (wrap64 ((wrap64 ((wrap64 (1 - a0_3)) * a0_4)) + (wrap64 (a0_1 * a0_5)))) (wrap64 ((wrap64 (a0_2 * a0_4)) + (wrap64 ((wrap64 (1 - a0_0)) * a0_5))))).bind fun t392 => ((impl_gcd.f k t392 (wrap64 ((wrap64 (2 - a0_0)) - a0_3))).bind fun t393 => (if t393 = 0 then (none) else (some (wrap64 (Int.tdiv (wrap64 ((wrap64 ((wrap64 (1 - a0_3)) * a0_4)) + (wrap64 (a0_1 * a0_5)))) t393), wrap64 (Int.tdiv (wrap64 ((wrap64 (a0_2 * a0_4)) + (wrap64 ((wrap64 (1 - a0_0)) * a0_5)))) t393), wrap64 (Int.tdiv (wrap64 ((wrap64 (2 - a0_0)) - a0_3)) t393)))))) = some (r1, r2, r3) := h
 clear h
 obtain ⟨t392, A2, H⟩ := ob H
 try dsimp only at H
 obtain ⟨t393, A3, H⟩ := ob H
 try dsimp only at H
 by_cases c4 : t393 = 0
 ·rw [if_pos c4] at H
  exact absurd H (by simp)
 ·rw [if_neg c4] at H
  have c4b0 : (t393 == 0) = false := beq_eq_false_iff_ne.mpr c4
  have c4b1 : (t393 != 0) = true := bne_iff_ne.mpr c4
  simp only [Option.some.injEq, Prod.mk.injEq] at H
  obtain ⟨rfl, rfl, rfl⟩ := H
  go_enter Tryz.func36, Tryz.ntmps36
  try go_wp2_with (first | ((with_reducible refine gd 1 rfl ?_); refine bx #[.int .i64 a0_0, .int .i64 a0_1, .int .i64 a0_2, .int .i64 a0_3, .int .i64 a0_4, .int .i64 a0_5] 29 ?_; intro gb389 hg w5 BK389 hb; have GE389 := ngw0 hg HB; replace HB := bS0 HB hb; clear hb hg) | ((with_reducible refine gd 2 rfl ?_); refine bx #[.int .i64 0, .int .i64 0] 27 ?_; intro gb390 hg w6 BK390 hb; have GE390 := ngw1 hg HB GE389; replace HB := bS1 HB GE389 hb; have NB389_390 := nlt hg BK389; have NB390_389 := nsy (nlt hg BK389); replace BK389 := bB BK389 hb; clear hb hg; have hnb7 := NB389_390.out; have hnc7 := NB390_389.out; obtain ⟨hcz8_0, hcz8_1, hcz8_2, hcz8_3, hcz8_4, hcz8_5, hfz8_0, hfz8_1, hfz8_2, hfz8_3, hfz8_4, hfz8_5⟩ := bz6 BK389) | ((with_reducible refine gd 5 rfl ?_); refine bx #[.int .i64 0, .int .i64 0] 27 ?_; intro gb391 hg w9 BK391 hb; have GE391 := ngw2 hg HB GE389 GE390; replace HB := bS2 HB GE389 GE390 hb; have NB389_391 := nlt hg BK389; have NB391_389 := nsy (nlt hg BK389); replace BK389 := bB BK389 hb; have NB390_391 := nlt hg BK390; have NB391_390 := nsy (nlt hg BK390); replace BK390 := bB BK390 hb; clear hb hg; have hnb10 := NB391_389.out; have hnc10 := NB389_391.out; have hnb11 := NB391_390.out; have hnc11 := NB390_391.out; obtain ⟨hcz12_0, hcz12_1, hfz12_0, hfz12_1⟩ := bz2 BK391) | ((with_reducible refine gate_callee (f := 54) rfl ?_); refine gl 52 Tryz.func54 #[.int .i64 (wrap64 ((wrap64 ((wrap64 (1 - a0_3)) * a0_4)) + (wrap64 (a0_1 * a0_5)))), .int .i64 (wrap64 ((wrap64 (a0_2 * a0_4)) + (wrap64 ((wrap64 (1 - a0_0)) * a0_5))))] ?_; (with_reducible refine (impl_gcd.calls _ _ _ _ _ A2.out).mono ?_); rintro e w13 ⟨rfl, hb⟩; refine ⟨_, rfl, ?_⟩; replace BK389 := asd (blk_below (g := gb389) (o := .cells #[.int .i64 a0_0, .int .i64 a0_1, .int .i64 a0_2, .int .i64 a0_3, .int .i64 a0_4, .int .i64 a0_5] 29 (0, 0)) (bq1 BK389 NB389_391) hb); replace BK390 := asd (blk_below (g := gb390) (o := .cells #[.int .i64 0, .int .i64 0] 27 (0, 0)) (bq1 BK390 NB390_391) hb); replace BK391 := asd (blk_below (g := gb391) (o := .cells #[.int .i64 (wrap64 ((wrap64 ((wrap64 (1 - a0_3)) * a0_4)) + (wrap64 (a0_1 * a0_5)))), .int .i64 (wrap64 ((wrap64 (a0_2 * a0_4)) + (wrap64 ((wrap64 (1 - a0_0)) * a0_5))))] 27 (0, 0)) (bq0 BK391) hb); replace HB := bS3 HB GE389 GE390 GE391 hb; (try clear hb)) | ((with_reducible refine gate_callee (f := 54) rfl ?_); refine gl 54 Tryz.func54 #[.int .i64 t392, .int .i64 (wrap64 ((wrap64 (2 - a0_0)) - a0_3))] ?_; (with_reducible refine (impl_gcd.calls _ _ _ _ _ A3.out).mono ?_); rintro e w14 ⟨rfl, hb⟩; refine ⟨_, rfl, ?_⟩; replace BK389 := bB BK389 hb; replace BK390 := bB BK390 hb; replace BK391 := bB BK391 hb; replace HB := bS3 HB GE389 GE390 GE391 hb; (try clear hb)))
  replace BK389 := asd (blk_drew BK389.out)
  replace BK390 := asd (blk_drew BK390.out)
  replace BK391 := asd (blk_drew BK391.out)
  replace HB := asd (below_drew1 HB.out)
  refine sh 14 (eb2 BK391) (fun hHeld => ?_); refine with_tabW impl_Motion_centre.tab4 impl_Motion_centre.bits4 (fun HT_ HW_ => ?_)
  generalize w14.drew = w15 at BK389 BK390 BK391 HB hHeld ⊢
  refine pu 0 (some 55) (bT 14 1) HT_ ?_
  refine pu 2 (some 57) (bs 14 5) HT_ ?_
  refine pu 4 (some 59) (bs 14 21) HT_ ?_
  refine pu 6 (some 61) (bs 14 85) HT_ ?_
  refine pu 9 (some 64) (bs 14 597) HT_ ?_
  refine pu 10 (some 65) (bs 14 1621) HT_ ?_
  refine pu 11 (some 66) (bs 14 3669) HT_ ?_
  refine ta 1 (some 56) (bs 14 3671) HT_ HW_ hHeld ?_
  refine pu 3 (some 58) (bs 14 3679) HT_ ?_
  refine ta 5 (some 60) (bs 14 3711) HT_ HW_ hHeld ?_
  refine pu 7 (some 62) (bs 14 3839) HT_ ?_
  refine pu 8 (some 63) (bT 14 12) HT_ ?_
  refine ro 12 (none) (bT 14 13) HT_ (fun K hK => ?_)
  have hs16 : w15.cell? ⟨gb390, 0, none⟩ = some (.int .i64 0) := bcl BK390 0
  have hfs16 := blk_frozen BK390.out 0
  have hns16_0 := NB389_390.out
  have hns16_2 := NB391_390.out
  have hms16_0 := NB390_389.out
  have hms16_2 := NB390_391.out
  have hs17 : w15.cell? ⟨gb390, 1, none⟩ = some (.int .i64 0) := bcl BK390 1
  have hfs17 := blk_frozen BK390.out 1
  have hns17_0 := NB389_390.out
  have hns17_2 := NB391_390.out
  have hms17_0 := NB390_389.out
  have hms17_2 := NB390_391.out
  refine skip_ (w1 := ?_) (by rfl) rfl ?_ ?_
  rotate_left
  ·go_simp
   rfl
  refine hK.out _ _ ⟨(cf2 NB391_390 (hHeld.1)), (cf2 NB391_390 (hHeld.2))⟩ (fun hHeld => ?_)
  clear hK K
  refine pu 13 (some 3) (bT 14 14) HT_ ?_
  refine done_ (done_of HT_.out (by kernel_rfl)) ?_
  try go_wp2
  refine bodyPost_ret (results_ct rfl _ _ gb390 27 #[.int .i64 (wrap64 (Int.tdiv (wrap64 ((wrap64 ((wrap64 (1 - a0_3)) * a0_4)) + (wrap64 (a0_1 * a0_5)))) t393)), .int .i64 (wrap64 (Int.tdiv (wrap64 ((wrap64 (a0_2 * a0_4)) + (wrap64 ((wrap64 (1 - a0_0)) * a0_5)))) t393))] (0, 0) _ rfl (bq0 BK390) Tryz.underlying27 rfl (by kernel_rfl)) rfl ?_
  exact er (bbw3 HB GE389 GE390 GE391)
/-! ### impl_CentreOf: function 8 -/
def impl_CentreOf.f (k : Nat) (a0_0 : Int) (a0_1 : Int) (a0_2 : Int) (a0_3 : Int) (a0_4 : Int) (a0_5 : Int) : Option (Int × Int × Int × Int) := (impl_IsMotion.f k a0_0 a0_1 a0_2 a0_3 a0_4 a0_5).bind fun t396 => (if t396 = true then ((impl_Motion_kind.f a0_0 a0_1 a0_2 a0_3 a0_4 a0_5).bind fun t397 => (if t397 = 2 then ((impl_Motion_centre.f k a0_0 a0_1 a0_2 a0_3 a0_4 a0_5).bind fun bt398 => ((impl_IsVec.f bt398.1 bt398.2.1).bind fun t402 => (if t402 = true then (some (bt398.1, bt398.2.1, bt398.2.2, 0)) else (some (0, 0, 0, 3))))) else (some (0, 0, 0, 5)))) else (some (0, 0, 0, 1)))
set_option maxHeartbeats 8000000 in
set_option maxRecDepth 100000 in
theorem impl_CentreOf.calls (k : Nat) (a0_0 : Int) (a0_1 : Int) (a0_2 : Int) (a0_3 : Int) (a0_4 : Int) (a0_5 : Int) (r1 : Int) (r2 : Int) (r3 : Int) (r4 : Int) (w : World) (h : impl_CentreOf.f k a0_0 a0_1 a0_2 a0_3 a0_4 a0_5 = some (r1, r2, r3, r4)) :
  Calls Tryz.prog 8 #[.agg #[.int .i64 a0_0, .int .i64 a0_1, .int .i64 a0_2, .int .i64 a0_3, .int .i64 a0_4, .int .i64 a0_5]] w fun e w' => e = .returned (.tuple #[.agg #[.int .i64 r1, .int .i64 r2], .int .i64 r3, .int .i64 r4]) ∧ Below w.heap.size w w' := by
 have hu29 := Tryz.underlying29
 have hu27 := Tryz.underlying27
 have HB := asd (Below.refl w.heap.size w)
 have H : ((impl_IsMotion.f k a0_0 a0_1 a0_2 a0_3 a0_4 a0_5).bind fun t396 => (if t396 = true then ((impl_Motion_kind.f a0_0 a0_1 a0_2 a0_3 a0_4 a0_5).bind fun t397 => (if t397 = 2 then ((impl_Motion_centre.f k a0_0 a0_1 a0_2 a0_3 a0_4 a0_5).bind fun bt398 => ((impl_IsVec.f bt398.1 bt398.2.1).bind fun t402 => (if t402 = true then (some (bt398.1, bt398.2.1, bt398.2.2, 0)) else (some (0, 0, 0, 3))))) else (some (0, 0, 0, 5)))) else (some (0, 0, 0, 1)))) = some (r1, r2, r3, r4) := h
 clear h
 obtain ⟨t396, A2, H⟩ := ob H
 try dsimp only at H
 by_cases c3 : t396 = true
 ·subst c3
  replace H := ifT H
  obtain ⟨t397, A4, H⟩ := ob H
  try dsimp only at H
  by_cases c5 : t397 = 2
  ·rw [if_pos c5] at H
   have c5b0 : (t397 == 2) = true := beq_iff_eq.mpr c5
   have c5b1 : (t397 != 2) = false := bne_eq_false_iff_eq.mpr c5
   clear c5
   obtain ⟨⟨t398, t399, t400⟩, A6, H⟩ := ob H
   try dsimp only at H
   obtain ⟨t402, A7, H⟩ := ob H
   try dsimp only at H
   by_cases c8 : t402 = true
   ·subst c8
    replace H := ifT H
    simp only [Option.some.injEq, Prod.mk.injEq] at H
    obtain ⟨rfl, rfl, rfl, rfl⟩ := H
    go_enter Tryz.func8, Tryz.ntmps8
    go_wp2_with (first | ((with_reducible refine gd 1 rfl ?_); refine bx #[.int .i64 a0_0, .int .i64 a0_1, .int .i64 a0_2, .int .i64 a0_3, .int .i64 a0_4, .int .i64 a0_5] 29 ?_; intro gb394 hg w9 BK394 hb; have GE394 := ngw0 hg HB; replace HB := bS0 HB hb; clear hb hg) | ((with_reducible refine gd 2 rfl ?_); refine bx #[.int .i64 0, .int .i64 0] 27 ?_; intro gb395 hg w10 BK395 hb; have GE395 := ngw1 hg HB GE394; replace HB := bS1 HB GE394 hb; have NB394_395 := nlt hg BK394; have NB395_394 := nsy (nlt hg BK394); replace BK394 := bB BK394 hb; clear hb hg; have hnb11 := NB394_395.out; have hnc11 := NB395_394.out; obtain ⟨hcz12_0, hcz12_1, hcz12_2, hcz12_3, hcz12_4, hcz12_5, hfz12_0, hfz12_1, hfz12_2, hfz12_3, hfz12_4, hfz12_5⟩ := bz6 BK394) | ((with_reducible refine gate_callee (f := 34) rfl ?_); refine gl 8 Tryz.func34 #[.agg #[.int .i64 a0_0, .int .i64 a0_1, .int .i64 a0_2, .int .i64 a0_3, .int .i64 a0_4, .int .i64 a0_5]] ?_; (with_reducible refine (impl_IsMotion.calls _ _ _ _ _ _ _ _ _ A2.out).mono ?_); rintro e w13 ⟨rfl, hb⟩; refine ⟨_, rfl, ?_⟩; replace BK394 := bB BK394 hb; replace BK395 := bB BK395 hb; replace HB := bS2 HB GE394 GE395 hb; (try clear hb); obtain ⟨hcz14_0, hcz14_1, hcz14_2, hcz14_3, hcz14_4, hcz14_5, hfz14_0, hfz14_1, hfz14_2, hfz14_3, hfz14_4, hfz14_5⟩ := bz6 BK394) | ((with_reducible refine gate_callee (f := 35) rfl ?_); refine gl 12 Tryz.func35 #[.agg #[.int .i64 a0_0, .int .i64 a0_1, .int .i64 a0_2, .int .i64 a0_3, .int .i64 a0_4, .int .i64 a0_5]] ?_; (with_reducible refine (impl_Motion_kind.calls _ _ _ _ _ _ _ _ A4.out).mono ?_); rintro e w15 ⟨rfl, hb⟩; refine ⟨_, rfl, ?_⟩; replace BK394 := bB BK394 hb; replace BK395 := bB BK395 hb; replace HB := bS2 HB GE394 GE395 hb; (try clear hb); obtain ⟨hcz16_0, hcz16_1, hcz16_2, hcz16_3, hcz16_4, hcz16_5, hfz16_0, hfz16_1, hfz16_2, hfz16_3, hfz16_4, hfz16_5⟩ := bz6 BK394) | ((with_reducible refine gate_callee (f := 36) rfl ?_); refine gl 17 Tryz.func36 #[.agg #[.int .i64 a0_0, .int .i64 a0_1, .int .i64 a0_2, .int .i64 a0_3, .int .i64 a0_4, .int .i64 a0_5]] ?_; (with_reducible refine (impl_Motion_centre.calls _ _ _ _ _ _ _ _ _ _ _ A6.out).mono ?_); rintro e w17 ⟨rfl, hb⟩; refine ⟨_, rfl, ?_⟩; replace BK394 := bB BK394 hb; replace BK395 := bB BK395 hb; replace HB := bS2 HB GE394 GE395 hb; (try clear hb)) | ((with_reducible refine gd 5 rfl ?_); refine bx #[.int .i64 0, .int .i64 0] 27 ?_; intro gb401 hg w18 BK401 hb; have GE401 := ngw2 hg HB GE394 GE395; replace HB := bS2 HB GE394 GE395 hb; have NB394_401 := nlt hg BK394; have NB401_394 := nsy (nlt hg BK394); replace BK394 := bB BK394 hb; have NB395_401 := nlt hg BK395; have NB401_395 := nsy (nlt hg BK395); replace BK395 := bB BK395 hb; clear hb hg; have hnb19 := NB401_394.out; have hnc19 := NB394_401.out; have hnb20 := NB401_395.out; have hnc20 := NB395_401.out; obtain ⟨hcz21_0, hcz21_1, hfz21_0, hfz21_1⟩ := bz2 BK401) | ((with_reducible refine gate_callee (f := 37) rfl ?_); refine gl 21 Tryz.func37 #[.agg #[.int .i64 t398, .int .i64 t399]] ?_; (with_reducible refine (impl_IsVec.calls _ _ _ _ A7.out).mono ?_); rintro e w22 ⟨rfl, hb⟩; refine ⟨_, rfl, ?_⟩; replace BK394 := asd (blk_below (g := gb394) (o := .cells #[.int .i64 a0_0, .int .i64 a0_1, .int .i64 a0_2, .int .i64 a0_3, .int .i64 a0_4, .int .i64 a0_5] 29 (0, 0)) (bq1 BK394 NB394_401) hb); replace BK395 := asd (blk_below (g := gb395) (o := .cells #[.int .i64 0, .int .i64 0] 27 (0, 0)) (bq1 BK395 NB395_401) hb); replace BK401 := asd (blk_below (g := gb401) (o := .cells #[.int .i64 t398, .int .i64 t399] 27 (0, 0)) (bq0 BK401) hb); replace HB := bS3 HB GE394 GE395 GE401 hb; (try clear hb); obtain ⟨hcz23_0, hcz23_1, hfz23_0, hfz23_1⟩ := bz2 BK401; obtain ⟨hcz24_0, hcz24_1, hfz24_0, hfz24_1⟩ := bz2 BK395))
    refine bodyPost_ret (results_ctt rfl _ _ gb395 27 #[.int .i64 t398, .int .i64 t399] (0, 0) _ rfl (bq0 BK395) Tryz.underlying27 rfl (by kernel_rfl)) rfl ?_
    exact er (bbw3 HB GE394 GE395 GE401)
   ·replace c8 := Bool.eq_false_iff.mpr c8
    subst c8
    replace H := ifF H
    simp only [Option.some.injEq, Prod.mk.injEq] at H
    obtain ⟨rfl, rfl, rfl, rfl⟩ := H
    go_enter Tryz.func8, Tryz.ntmps8
    go_wp2_with (first | ((with_reducible refine gd 1 rfl ?_); refine bx #[.int .i64 a0_0, .int .i64 a0_1, .int .i64 a0_2, .int .i64 a0_3, .int .i64 a0_4, .int .i64 a0_5] 29 ?_; intro gb394 hg w25 BK394 hb; have GE394 := ngw0 hg HB; replace HB := bS0 HB hb; clear hb hg) | ((with_reducible refine gd 2 rfl ?_); refine bx #[.int .i64 0, .int .i64 0] 27 ?_; intro gb395 hg w26 BK395 hb; have GE395 := ngw1 hg HB GE394; replace HB := bS1 HB GE394 hb; have NB394_395 := nlt hg BK394; have NB395_394 := nsy (nlt hg BK394); replace BK394 := bB BK394 hb; clear hb hg; have hnb27 := NB394_395.out; have hnc27 := NB395_394.out; obtain ⟨hcz28_0, hcz28_1, hcz28_2, hcz28_3, hcz28_4, hcz28_5, hfz28_0, hfz28_1, hfz28_2, hfz28_3, hfz28_4, hfz28_5⟩ := bz6 BK394) | ((with_reducible refine gate_callee (f := 34) rfl ?_); refine gl 8 Tryz.func34 #[.agg #[.int .i64 a0_0, .int .i64 a0_1, .int .i64 a0_2, .int .i64 a0_3, .int .i64 a0_4, .int .i64 a0_5]] ?_; (with_reducible refine (impl_IsMotion.calls _ _ _ _ _ _ _ _ _ A2.out).mono ?_); rintro e w29 ⟨rfl, hb⟩; refine ⟨_, rfl, ?_⟩; replace BK394 := bB BK394 hb; replace BK395 := bB BK395 hb; replace HB := bS2 HB GE394 GE395 hb; (try clear hb); obtain ⟨hcz30_0, hcz30_1, hcz30_2, hcz30_3, hcz30_4, hcz30_5, hfz30_0, hfz30_1, hfz30_2, hfz30_3, hfz30_4, hfz30_5⟩ := bz6 BK394) | ((with_reducible refine gate_callee (f := 35) rfl ?_); refine gl 12 Tryz.func35 #[.agg #[.int .i64 a0_0, .int .i64 a0_1, .int .i64 a0_2, .int .i64 a0_3, .int .i64 a0_4, .int .i64 a0_5]] ?_; (with_reducible refine (impl_Motion_kind.calls _ _ _ _ _ _ _ _ A4.out).mono ?_); rintro e w31 ⟨rfl, hb⟩; refine ⟨_, rfl, ?_⟩; replace BK394 := bB BK394 hb; replace BK395 := bB BK395 hb; replace HB := bS2 HB GE394 GE395 hb; (try clear hb); obtain ⟨hcz32_0, hcz32_1, hcz32_2, hcz32_3, hcz32_4, hcz32_5, hfz32_0, hfz32_1, hfz32_2, hfz32_3, hfz32_4, hfz32_5⟩ := bz6 BK394) | ((with_reducible refine gate_callee (f := 36) rfl ?_); refine gl 17 Tryz.func36 #[.agg #[.int .i64 a0_0, .int .i64 a0_1, .int .i64 a0_2, .int .i64 a0_3, .int .i64 a0_4, .int .i64 a0_5]] ?_; (with_reducible refine (impl_Motion_centre.calls _ _ _ _ _ _ _ _ _ _ _ A6.out).mono ?_); rintro e w33 ⟨rfl, hb⟩; refine ⟨_, rfl, ?_⟩; replace BK394 := bB BK394 hb; replace BK395 := bB BK395 hb; replace HB := bS2 HB GE394 GE395 hb; (try clear hb)) | ((with_reducible refine gd 5 rfl ?_); refine bx #[.int .i64 0, .int .i64 0] 27 ?_; intro gb401 hg w34 BK401 hb; have GE401 := ngw2 hg HB GE394 GE395; replace HB := bS2 HB GE394 GE395 hb; have NB394_401 := nlt hg BK394; have NB401_394 := nsy (nlt hg BK394); replace BK394 := bB BK394 hb; have NB395_401 := nlt hg BK395; have NB401_395 := nsy (nlt hg BK395); replace BK395 := bB BK395 hb; clear hb hg; have hnb35 := NB401_394.out; have hnc35 := NB394_401.out; have hnb36 := NB401_395.out; have hnc36 := NB395_401.out; obtain ⟨hcz37_0, hcz37_1, hfz37_0, hfz37_1⟩ := bz2 BK401) | ((with_reducible refine gate_callee (f := 37) rfl ?_); refine gl 21 Tryz.func37 #[.agg #[.int .i64 t398, .int .i64 t399]] ?_; (with_reducible refine (impl_IsVec.calls _ _ _ _ A7.out).mono ?_); rintro e w38 ⟨rfl, hb⟩; refine ⟨_, rfl, ?_⟩; replace BK394 := asd (blk_below (g := gb394) (o := .cells #[.int .i64 a0_0, .int .i64 a0_1, .int .i64 a0_2, .int .i64 a0_3, .int .i64 a0_4, .int .i64 a0_5] 29 (0, 0)) (bq1 BK394 NB394_401) hb); replace BK395 := asd (blk_below (g := gb395) (o := .cells #[.int .i64 0, .int .i64 0] 27 (0, 0)) (bq1 BK395 NB395_401) hb); replace BK401 := asd (blk_below (g := gb401) (o := .cells #[.int .i64 t398, .int .i64 t399] 27 (0, 0)) (bq0 BK401) hb); replace HB := bS3 HB GE394 GE395 GE401 hb; (try clear hb); obtain ⟨hcz39_0, hcz39_1, hfz39_0, hfz39_1⟩ := bz2 BK395))
    refine bodyPost_ret (results_ctt rfl _ _ gb395 27 #[.int .i64 0, .int .i64 0] (0, 0) _ rfl (bq0 BK395) Tryz.underlying27 rfl (by kernel_rfl)) rfl ?_
    exact er (bbw3 HB GE394 GE395 GE401)
  ·rw [if_neg c5] at H
   have c5b0 : (t397 == 2) = false := beq_eq_false_iff_ne.mpr c5
   have c5b1 : (t397 != 2) = true := bne_iff_ne.mpr c5
   simp only [Option.some.injEq, Prod.mk.injEq] at H
   obtain ⟨rfl, rfl, rfl, rfl⟩ := H
   go_enter Tryz.func8, Tryz.ntmps8
   go_wp2_with (first | ((with_reducible refine gd 1 rfl ?_); refine bx #[.int .i64 a0_0, .int .i64 a0_1, .int .i64 a0_2, .int .i64 a0_3, .int .i64 a0_4, .int .i64 a0_5] 29 ?_; intro gb394 hg w40 BK394 hb; have GE394 := ngw0 hg HB; replace HB := bS0 HB hb; clear hb hg) | ((with_reducible refine gd 2 rfl ?_); refine bx #[.int .i64 0, .int .i64 0] 27 ?_; intro gb395 hg w41 BK395 hb; have GE395 := ngw1 hg HB GE394; replace HB := bS1 HB GE394 hb; have NB394_395 := nlt hg BK394; have NB395_394 := nsy (nlt hg BK394); replace BK394 := bB BK394 hb; clear hb hg; have hnb42 := NB394_395.out; have hnc42 := NB395_394.out; obtain ⟨hcz43_0, hcz43_1, hcz43_2, hcz43_3, hcz43_4, hcz43_5, hfz43_0, hfz43_1, hfz43_2, hfz43_3, hfz43_4, hfz43_5⟩ := bz6 BK394) | ((with_reducible refine gate_callee (f := 34) rfl ?_); refine gl 8 Tryz.func34 #[.agg #[.int .i64 a0_0, .int .i64 a0_1, .int .i64 a0_2, .int .i64 a0_3, .int .i64 a0_4, .int .i64 a0_5]] ?_; (with_reducible refine (impl_IsMotion.calls _ _ _ _ _ _ _ _ _ A2.out).mono ?_); rintro e w44 ⟨rfl, hb⟩; refine ⟨_, rfl, ?_⟩; replace BK394 := bB BK394 hb; replace BK395 := bB BK395 hb; replace HB := bS2 HB GE394 GE395 hb; (try clear hb); obtain ⟨hcz45_0, hcz45_1, hcz45_2, hcz45_3, hcz45_4, hcz45_5, hfz45_0, hfz45_1, hfz45_2, hfz45_3, hfz45_4, hfz45_5⟩ := bz6 BK394) | ((with_reducible refine gate_callee (f := 35) rfl ?_); refine gl 12 Tryz.func35 #[.agg #[.int .i64 a0_0, .int .i64 a0_1, .int .i64 a0_2, .int .i64 a0_3, .int .i64 a0_4, .int .i64 a0_5]] ?_; (with_reducible refine (impl_Motion_kind.calls _ _ _ _ _ _ _ _ A4.out).mono ?_); rintro e w46 ⟨rfl, hb⟩; refine ⟨_, rfl, ?_⟩; replace BK394 := bB BK394 hb; replace BK395 := bB BK395 hb; replace HB := bS2 HB GE394 GE395 hb; (try clear hb); obtain ⟨hcz47_0, hcz47_1, hfz47_0, hfz47_1⟩ := bz2 BK395))
   refine bodyPost_ret (results_ctt rfl _ _ gb395 27 #[.int .i64 0, .int .i64 0] (0, 0) _ rfl (bq0 BK395) Tryz.underlying27 rfl (by kernel_rfl)) rfl ?_
   exact er (bbw2 HB GE394 GE395)
 ·replace c3 := Bool.eq_false_iff.mpr c3
  subst c3
  replace H := ifF H
  simp only [Option.some.injEq, Prod.mk.injEq] at H
  obtain ⟨rfl, rfl, rfl, rfl⟩ := H
  go_enter Tryz.func8, Tryz.ntmps8
  go_wp2_with (first | ((with_reducible refine gd 1 rfl ?_); refine bx #[.int .i64 a0_0, .int .i64 a0_1, .int .i64 a0_2, .int .i64 a0_3, .int .i64 a0_4, .int .i64 a0_5] 29 ?_; intro gb394 hg w48 BK394 hb; have GE394 := ngw0 hg HB; replace HB := bS0 HB hb; clear hb hg) | ((with_reducible refine gd 2 rfl ?_); refine bx #[.int .i64 0, .int .i64 0] 27 ?_; intro gb395 hg w49 BK395 hb; have GE395 := ngw1 hg HB GE394; replace HB := bS1 HB GE394 hb; have NB394_395 := nlt hg BK394; have NB395_394 := nsy (nlt hg BK394); replace BK394 := bB BK394 hb; clear hb hg; have hnb50 := NB394_395.out; have hnc50 := NB395_394.out; obtain ⟨hcz51_0, hcz51_1, hcz51_2, hcz51_3, hcz51_4, hcz51_5, hfz51_0, hfz51_1, hfz51_2, hfz51_3, hfz51_4, hfz51_5⟩ := bz6 BK394) | ((with_reducible refine gate_callee (f := 34) rfl ?_); refine gl 8 Tryz.func34 #[.agg #[.int .i64 a0_0, .int .i64 a0_1, .int .i64 a0_2, .int .i64 a0_3, .int .i64 a0_4, .int .i64 a0_5]] ?_; (with_reducible refine (impl_IsMotion.calls _ _ _ _ _ _ _ _ _ A2.out).mono ?_); rintro e w52 ⟨rfl, hb⟩; refine ⟨_, rfl, ?_⟩; replace BK394 := bB BK394 hb; replace BK395 := bB BK395 hb; replace HB := bS2 HB GE394 GE395 hb; (try clear hb); obtain ⟨hcz53_0, hcz53_1, hfz53_0, hfz53_1⟩ := bz2 BK395))
  refine bodyPost_ret (results_ctt rfl _ _ gb395 27 #[.int .i64 0, .int .i64 0] (0, 0) _ rfl (bq0 BK395) Tryz.underlying27 rfl (by kernel_rfl)) rfl ?_
  exact er (bbw2 HB GE394 GE395)

/-! ### spec_l01In: function 92 -/
def spec_l01In.f (a0 : Int) (a1 : Int) (a2 : Int) : Option (Bool) := if a0 ≥ a1 then (some (decide (a0 ≤ a2))) else (some false)
set_option maxHeartbeats 8000000 in
set_option maxRecDepth 100000 in
theorem spec_l01In.calls (a0 : Int) (a1 : Int) (a2 : Int) (r : Bool) (w : World) (h : spec_l01In.f a0 a1 a2 = some r) :
  Calls Tryz.prog 92 #[.int .i64 a0, .int .i64 a1, .int .i64 a2] w fun e w' => e = .returned (.bool r) ∧ Drawn0 w w' := by
 have H : (if a0 ≥ a1 then (some (decide (a0 ≤ a2))) else (some false)) = some r := h
 clear h
 by_cases c4 : a0 ≥ a1
 ·rw [if_pos c4] at H
  have c4b0 : decide (a1 ≤ a0) = true := decide_eq_true c4
  clear c4
  obtain rfl := Option.some.inj H
  go_enter Tryz.func92, Tryz.ntmps92
  go_wp2
  go_ret
  exact ⟨by first | rfl | (simp; done) | (simp [*]; done), by repeat (first | exact Drawn0.refl _ | apply Drawn0.step)⟩
 ·rw [if_neg c4] at H
  have c4b0 : decide (a1 ≤ a0) = false := decide_eq_false c4
  clear c4
  obtain rfl := Option.some.inj H
  go_enter Tryz.func92, Tryz.ntmps92
  go_wp2
  go_ret
  exact ⟨by first | rfl | (simp; done) | (simp [*]; done), by repeat (first | exact Drawn0.refl _ | apply Drawn0.step)⟩
/-! ### spec_IsVec: function 41 -/
def spec_IsVec.f (a0_0 : Int) (a0_1 : Int) : Option (Bool) := (spec_l01In.f a0_0 (-1000) 1000).bind fun t404 => (if t404 = true then ((spec_l01In.f a0_1 (-1000) 1000).bind fun t405 => (some t405)) else (some false))
set_option maxHeartbeats 8000000 in
set_option maxRecDepth 100000 in
theorem spec_IsVec.calls (a0_0 : Int) (a0_1 : Int) (r : Bool) (w : World) (h : spec_IsVec.f a0_0 a0_1 = some r) :
  Calls Tryz.prog 41 #[.agg #[.int .i64 a0_0, .int .i64 a0_1]] w fun e w' => e = .returned (.bool r) ∧ Below w.heap.size w w' := by
 have hu27 := Tryz.underlying27
 have HB := asd (Below.refl w.heap.size w)
 have H : ((spec_l01In.f a0_0 (-1000) 1000).bind fun t404 => (if t404 = true then ((spec_l01In.f a0_1 (-1000) 1000).bind fun t405 => (some t405)) else (some false))) = some r := h
 clear h
 obtain ⟨t404, A2, H⟩ := ob H
 try dsimp only at H
 by_cases c3 : t404 = true
 subst c3
 replace H := ifT H
 obtain ⟨t405, A4, H⟩ := ob H
 try dsimp only at H
 obtain rfl := Option.some.inj H
 rotate_left
 replace c3 := Bool.eq_false_iff.mpr c3
 subst c3
 replace H := ifF H
 obtain rfl := Option.some.inj H
 rotate_left
 all_goals
  go_enter Tryz.func41, Tryz.ntmps41
  go_wp2_with (first | ((with_reducible refine gd 1 rfl ?_); refine bx #[.int .i64 a0_0, .int .i64 a0_1] 27 ?_; intro gb403 hg w5 BK403 hb; have GE403 := ngw0 hg HB; replace HB := bS0 HB hb; clear hb hg; obtain ⟨hcz6_0, hcz6_1, hfz6_0, hfz6_1⟩ := bz2 BK403) | ((with_reducible refine gate_callee (f := 92) rfl ?_); refine gl 5 Tryz.func92 #[.int .i64 a0_0, .int .i64 (-1000), .int .i64 1000] ?_; (with_reducible refine (spec_l01In.calls _ _ _ _ _ A2.out).mono ?_); rintro e w' ⟨rfl, ⟨nd, rfl⟩⟩; refine ⟨_, rfl, ?_⟩) | (go_at_call 92; (with_reducible refine (spec_l01In.calls _ _ _ _ _ A4.out).mono ?_); rintro e w' ⟨rfl, ⟨nd, rfl⟩⟩))
  go_ret
  exact er (bbw1 HB GE403)
/-! ### spec_l02Small: function 99 -/
def spec_l02Small.f (a0_0 : Int) (a0_1 : Int) (a0_2 : Int) (a0_3 : Int) : Option (Bool) := (spec_IsVec.f a0_0 a0_1).bind fun t407 => (if t407 = true then ((spec_IsVec.f a0_2 a0_3).bind fun t408 => (some t408)) else (some false))
set_option maxHeartbeats 8000000 in
set_option maxRecDepth 100000 in
theorem spec_l02Small.calls (a0_0 : Int) (a0_1 : Int) (a0_2 : Int) (a0_3 : Int) (r : Bool) (w : World) (h : spec_l02Small.f a0_0 a0_1 a0_2 a0_3 = some r) :
  Calls Tryz.prog 99 #[.agg #[.int .i64 a0_0, .int .i64 a0_1, .int .i64 a0_2, .int .i64 a0_3]] w fun e w' => e = .returned (.bool r) ∧ Below w.heap.size w w' := by
 have hu25 := Tryz.underlying25
 have hu27 := Tryz.underlying27
 have HB := asd (Below.refl w.heap.size w)
 have H : ((spec_IsVec.f a0_0 a0_1).bind fun t407 => (if t407 = true then ((spec_IsVec.f a0_2 a0_3).bind fun t408 => (some t408)) else (some false))) = some r := h
 clear h
 obtain ⟨t407, A2, H⟩ := ob H
 try dsimp only at H
 by_cases c3 : t407 = true
 ·subst c3
  replace H := ifT H
  obtain ⟨t408, A4, H⟩ := ob H
  try dsimp only at H
  obtain rfl := Option.some.inj H
  go_enter Tryz.func99, Tryz.ntmps99
  go_wp2_with (first | ((with_reducible refine gd 1 rfl ?_); refine bx #[.int .i64 a0_0, .int .i64 a0_1, .int .i64 a0_2, .int .i64 a0_3] 25 ?_; intro gb406 hg w5 BK406 hb; have GE406 := ngw0 hg HB; replace HB := bS0 HB hb; clear hb hg; obtain ⟨hcz6_0, hcz6_1, hcz6_2, hcz6_3, hfz6_0, hfz6_1, hfz6_2, hfz6_3⟩ := bz4 BK406) | ((with_reducible refine gate_callee (f := 41) rfl ?_); refine gl 8 Tryz.func41 #[.agg #[.int .i64 a0_0, .int .i64 a0_1]] ?_; (with_reducible refine (spec_IsVec.calls _ _ _ _ A2.out).mono ?_); rintro e w7 ⟨rfl, hb⟩; refine ⟨_, rfl, ?_⟩; replace BK406 := bB BK406 hb; replace HB := bS1 HB GE406 hb; (try clear hb); obtain ⟨hcz8_0, hcz8_1, hcz8_2, hcz8_3, hfz8_0, hfz8_1, hfz8_2, hfz8_3⟩ := bz4 BK406) | (go_at_call 41; (with_reducible refine (spec_IsVec.calls _ _ _ _ A4.out).mono ?_); rintro e w9 ⟨rfl, hb⟩; replace BK406 := bB BK406 hb; replace HB := bS1 HB GE406 hb; (try clear hb)))
  go_ret
  exact er (bbw1 HB GE406)
 ·replace c3 := Bool.eq_false_iff.mpr c3
  subst c3
  replace H := ifF H
  obtain rfl := Option.some.inj H
  go_enter Tryz.func99, Tryz.ntmps99
  go_wp2_with (first | ((with_reducible refine gd 1 rfl ?_); refine bx #[.int .i64 a0_0, .int .i64 a0_1, .int .i64 a0_2, .int .i64 a0_3] 25 ?_; intro gb406 hg w10 BK406 hb; have GE406 := ngw0 hg HB; replace HB := bS0 HB hb; clear hb hg; obtain ⟨hcz11_0, hcz11_1, hcz11_2, hcz11_3, hfz11_0, hfz11_1, hfz11_2, hfz11_3⟩ := bz4 BK406) | ((with_reducible refine gate_callee (f := 41) rfl ?_); refine gl 8 Tryz.func41 #[.agg #[.int .i64 a0_0, .int .i64 a0_1]] ?_; (with_reducible refine (spec_IsVec.calls _ _ _ _ A2.out).mono ?_); rintro e w12 ⟨rfl, hb⟩; refine ⟨_, rfl, ?_⟩; replace BK406 := bB BK406 hb; replace HB := bS1 HB GE406 hb; (try clear hb)))
  go_ret
  exact er (bbw1 HB GE406)
/-! ### spec_IsMat: function 58 -/
def spec_IsMat.f (a0_0 : Int) (a0_1 : Int) (a0_2 : Int) (a0_3 : Int) : Option (Bool) := (spec_l02Small.f a0_0 a0_1 a0_2 a0_3).bind fun t410 => (if t410 = true then ((spec_l02Det.f a0_0 a0_1 a0_2 a0_3).bind fun t411 => (if t411 = 1 then (some true) else ((spec_l02Det.f a0_0 a0_1 a0_2 a0_3).bind fun t412 => (some (t412 == (-1)))))) else (some false))
set_option maxHeartbeats 8000000 in
set_option maxRecDepth 100000 in
theorem spec_IsMat.calls (a0_0 : Int) (a0_1 : Int) (a0_2 : Int) (a0_3 : Int) (r : Bool) (w : World) (h : spec_IsMat.f a0_0 a0_1 a0_2 a0_3 = some r) :
  Calls Tryz.prog 58 #[.agg #[.int .i64 a0_0, .int .i64 a0_1, .int .i64 a0_2, .int .i64 a0_3]] w fun e w' => e = .returned (.bool r) ∧ Below w.heap.size w w' := by
 have hu25 := Tryz.underlying25
 have HB := asd (Below.refl w.heap.size w)
 have H : ((spec_l02Small.f a0_0 a0_1 a0_2 a0_3).bind fun t410 => (if t410 = true then ((spec_l02Det.f a0_0 a0_1 a0_2 a0_3).bind fun t411 => (if t411 = 1 then (some true) else ((spec_l02Det.f a0_0 a0_1 a0_2 a0_3).bind fun t412 => (some (t412 == (-1)))))) else (some false))) = some r := h
 clear h
 obtain ⟨t410, A2, H⟩ := ob H
 try dsimp only at H
 by_cases c3 : t410 = true
 ·subst c3
  replace H := ifT H
  obtain ⟨t411, A4, H⟩ := ob H
  try dsimp only at H
  by_cases c5 : t411 = 1
  ·rw [if_pos c5] at H
   have c5b0 : (t411 == 1) = true := beq_iff_eq.mpr c5
   have c5b1 : (t411 != 1) = false := bne_eq_false_iff_eq.mpr c5
   clear c5
   obtain rfl := Option.some.inj H
   go_enter Tryz.func58, Tryz.ntmps58
   go_wp2_with (first | ((with_reducible refine gd 1 rfl ?_); refine bx #[.int .i64 a0_0, .int .i64 a0_1, .int .i64 a0_2, .int .i64 a0_3] 25 ?_; intro gb409 hg w6 BK409 hb; have GE409 := ngw0 hg HB; replace HB := bS0 HB hb; clear hb hg; obtain ⟨hcz7_0, hcz7_1, hcz7_2, hcz7_3, hfz7_0, hfz7_1, hfz7_2, hfz7_3⟩ := bz4 BK409) | ((with_reducible refine gate_callee (f := 99) rfl ?_); refine gl 4 Tryz.func99 #[.agg #[.int .i64 a0_0, .int .i64 a0_1, .int .i64 a0_2, .int .i64 a0_3]] ?_; (with_reducible refine (spec_l02Small.calls _ _ _ _ _ _ A2.out).mono ?_); rintro e w8 ⟨rfl, hb⟩; refine ⟨_, rfl, ?_⟩; replace BK409 := bB BK409 hb; replace HB := bS1 HB GE409 hb; (try clear hb); obtain ⟨hcz9_0, hcz9_1, hcz9_2, hcz9_3, hfz9_0, hfz9_1, hfz9_2, hfz9_3⟩ := bz4 BK409) | (go_at_call 89; (with_reducible refine (spec_l02Det.calls _ _ _ _ _ _ A4.out).mono ?_); rintro e w10 ⟨rfl, hb⟩; replace BK409 := bB BK409 hb; replace HB := bS1 HB GE409 hb; (try clear hb)))
   go_ret
   exact er (bbw1 HB GE409)
  ·rw [if_neg c5] at H
   have c5b0 : (t411 == 1) = false := beq_eq_false_iff_ne.mpr c5
   have c5b1 : (t411 != 1) = true := bne_iff_ne.mpr c5
   obtain ⟨t412, A11, H⟩ := ob H
   try dsimp only at H
   have e_ : t411 = t412 := Option.some.inj (A4.out.symm.trans A11.out)
   subst e_
   obtain rfl := Option.some.inj H
   go_enter Tryz.func58, Tryz.ntmps58
   go_wp2_with (first | ((with_reducible refine gd 1 rfl ?_); refine bx #[.int .i64 a0_0, .int .i64 a0_1, .int .i64 a0_2, .int .i64 a0_3] 25 ?_; intro gb409 hg w12 BK409 hb; have GE409 := ngw0 hg HB; replace HB := bS0 HB hb; clear hb hg; obtain ⟨hcz13_0, hcz13_1, hcz13_2, hcz13_3, hfz13_0, hfz13_1, hfz13_2, hfz13_3⟩ := bz4 BK409) | ((with_reducible refine gate_callee (f := 99) rfl ?_); refine gl 4 Tryz.func99 #[.agg #[.int .i64 a0_0, .int .i64 a0_1, .int .i64 a0_2, .int .i64 a0_3]] ?_; (with_reducible refine (spec_l02Small.calls _ _ _ _ _ _ A2.out).mono ?_); rintro e w14 ⟨rfl, hb⟩; refine ⟨_, rfl, ?_⟩; replace BK409 := bB BK409 hb; replace HB := bS1 HB GE409 hb; (try clear hb); obtain ⟨hcz15_0, hcz15_1, hcz15_2, hcz15_3, hfz15_0, hfz15_1, hfz15_2, hfz15_3⟩ := bz4 BK409) | (go_at_call 89; (with_reducible refine (spec_l02Det.calls _ _ _ _ _ _ A4.out).mono ?_); rintro e w16 ⟨rfl, hb⟩; replace BK409 := bB BK409 hb; replace HB := bS1 HB GE409 hb; (try clear hb); obtain ⟨hcz17_0, hcz17_1, hcz17_2, hcz17_3, hfz17_0, hfz17_1, hfz17_2, hfz17_3⟩ := bz4 BK409) | (go_at_call 89; (with_reducible refine (spec_l02Det.calls _ _ _ _ _ _ A11.out).mono ?_); rintro e w18 ⟨rfl, hb⟩; replace BK409 := bB BK409 hb; replace HB := bS1 HB GE409 hb; (try clear hb)))
   go_ret
   exact er (bbw1 HB GE409)
 ·replace c3 := Bool.eq_false_iff.mpr c3
  subst c3
  replace H := ifF H
  obtain rfl := Option.some.inj H
  go_enter Tryz.func58, Tryz.ntmps58
  go_wp2_with (first | ((with_reducible refine gd 1 rfl ?_); refine bx #[.int .i64 a0_0, .int .i64 a0_1, .int .i64 a0_2, .int .i64 a0_3] 25 ?_; intro gb409 hg w19 BK409 hb; have GE409 := ngw0 hg HB; replace HB := bS0 HB hb; clear hb hg; obtain ⟨hcz20_0, hcz20_1, hcz20_2, hcz20_3, hfz20_0, hfz20_1, hfz20_2, hfz20_3⟩ := bz4 BK409) | ((with_reducible refine gate_callee (f := 99) rfl ?_); refine gl 4 Tryz.func99 #[.agg #[.int .i64 a0_0, .int .i64 a0_1, .int .i64 a0_2, .int .i64 a0_3]] ?_; (with_reducible refine (spec_l02Small.calls _ _ _ _ _ _ A2.out).mono ?_); rintro e w21 ⟨rfl, hb⟩; refine ⟨_, rfl, ?_⟩; replace BK409 := bB BK409 hb; replace HB := bS1 HB GE409 hb; (try clear hb)))
  go_ret
  exact er (bbw1 HB GE409)

end Go.Proofs.YtnblfcibgokccaaGreatDoor.PC
