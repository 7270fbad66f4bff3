/- Walks written by program: each Go function that the law reaches comes to the plain function beside it. -/
import Derived.Test.YtnblfcibgokccaaGreatDoorPAx0
import Derived.Test.YtnblfcibgokccaaGreatDoorPAx1
import Derived.Test.YtnblfcibgokccaaGreatDoorPAx2
import Derived.Test.YtnblfcibgokccaaGreatDoorPAx4
namespace Go.Proofs.YtnblfcibgokccaaGreatDoor.PA
open Go.RowKit Go.Proofs.YtnblfcibgokccaaGreatDoorW.PrintWords Go.Proofs.YtnblfcibgokccaaGreatDoorW.PrintLast Go.Proofs.YtnblfcibgokccaaGreatDoorW.PrintMore
attribute [local go_sem] max2_int min2_int max_two min_two max_three min_three max_four min_four   -- for this text's walks alone
set_option linter.unusedVariables false
set_option linter.unusedSimpArgs false

attribute [local go_sem high] eqA25
/-! ### impl_Mat_order: function 97 -/
mutual
def impl_Mat_order.j0 : Nat → Int → Bool → Int → Int → Int → Int → Option (Int)
 | 0, _, _, _, _, _, _ => none
 | k + 1, x3, x13, x233000, x233001, x233002, x233003 => if x13 = true then (impl_Mat_order.j1 k x3 x13 x233000 x233001 x233002 x233003) else (impl_Mat_order.j1 k x3 (x233000 == (-1) && (x233001 == 0 && (x233002 == 0 && (x233003 == (-1))))) x233000 x233001 x233002 x233003)
def impl_Mat_order.j1 : Nat → Int → Bool → Int → Int → Int → Int → Option (Int)
 | 0, _, _, _, _, _, _ => none
 | k + 1, x3, x13, x233000, x233001, x233002, x233003 => if x13 = true then (some 2) else ((impl_Mat_det.f x233000 x233001 x233002 x233003).bind fun t238 => (if t238 = 1 then (impl_Mat_order.j2 k x3 (x3 == (-1)) x233000 x233001 x233002 x233003) else (impl_Mat_order.j2 k x3 false x233000 x233001 x233002 x233003)))
def impl_Mat_order.j2 : Nat → Int → Bool → Int → Int → Int → Int → Option (Int)
 | 0, _, _, _, _, _, _ => none
 | k + 1, x3, x24, x233000, x233001, x233002, x233003 => if x24 = true then (some 3) else ((impl_Mat_det.f x233000 x233001 x233002 x233003).bind fun t239 => (if t239 = 1 then (impl_Mat_order.j3 k x3 (x3 == 0) x233000 x233001 x233002 x233003) else (impl_Mat_order.j3 k x3 false x233000 x233001 x233002 x233003)))
def impl_Mat_order.j3 : Nat → Int → Bool → Int → Int → Int → Int → Option (Int)
 | 0, _, _, _, _, _, _ => none
 | k + 1, x3, x32, x233000, x233001, x233002, x233003 => if x32 = true then (some 4) else ((impl_Mat_det.f x233000 x233001 x233002 x233003).bind fun t240 => (if t240 = 1 then (if x3 = 1 then (some 6) else (some 0)) else (some 0)))
end
def impl_Mat_order.f (k : Nat) (a0_0 : Int) (a0_1 : Int) (a0_2 : Int) (a0_3 : Int) : Option (Int) := (impl_unit.f).bind fun bt233 => (if (a0_0 == bt233.1 && (a0_1 == bt233.2.1 && (a0_2 == bt233.2.2.1 && (a0_3 == bt233.2.2.2)))) = true then (some 1) else ((impl_Mat_det.f a0_0 a0_1 a0_2 a0_3).bind fun t237 => (if t237 = (-1) then (impl_Mat_order.j0 k (wrap64 (a0_0 + a0_3)) ((wrap64 (a0_0 + a0_3)) == 0) a0_0 a0_1 a0_2 a0_3) else (impl_Mat_order.j0 k (wrap64 (a0_0 + a0_3)) false a0_0 a0_1 a0_2 a0_3))))
set_option maxHeartbeats 8000000 in
set_option maxRecDepth 100000 in
theorem impl_Mat_order.calls (k : Nat) (a0_0 : Int) (a0_1 : Int) (a0_2 : Int) (a0_3 : Int) (r : Int) (w : World) (h : impl_Mat_order.f k a0_0 a0_1 a0_2 a0_3 = some r) :
  Calls Tryz.prog 97 #[.agg #[.int .i64 a0_0, .int .i64 a0_1, .int .i64 a0_2, .int .i64 a0_3]] w fun e w' => e = .returned (.int .i64 r) ∧ Below w.heap.size w w' := by
 have hu25 := Tryz.underlying25
 have HB := asd (Below.refl w.heap.size w)
 have H : ((impl_unit.f).bind fun bt233 => (if (a0_0 == bt233.1 && (a0_1 == bt233.2.1 && (a0_2 == bt233.2.2.1 && (a0_3 == bt233.2.2.2)))) = true then (some 1) else ((impl_Mat_det.f a0_0 a0_1 a0_2 a0_3).bind fun t237 => (if t237 = (-1) then (impl_Mat_order.j0 k (wrap64 (a0_0 + a0_3)) ((wrap64 (a0_0 + a0_3)) == 0) a0_0 a0_1 a0_2 a0_3) else (impl_Mat_order.j0 k (wrap64 (a0_0 + a0_3)) false a0_0 a0_1 a0_2 a0_3))))) = some r := h
 clear h
 obtain ⟨⟨t233, t234, t235, t236⟩, A2, H⟩ := ob H
 try dsimp only at H
 by_cases c3 : (a0_0 == t233 && (a0_1 == t234 && (a0_2 == t235 && (a0_3 == t236)))) = true
 rw [if_pos c3] at H
 have c3b0 := c3
 (try (have c3b1 : decide (a0_0 = t233 && (a0_1 == t234 && (a0_2 == t235 && (a0_3 == t236)))) = true := by simpa using c3))
 (try (have c3b2 : (a0_0 == t233 && (a0_1 == t234 && (a0_2 == t235 && (a0_3 == t236)))) = true := by simpa using c3))
 clear c3
 obtain rfl := Option.some.inj H
 rotate_left
 rw [if_neg c3] at H
 have c3b0 : (a0_0 == t233 && (a0_1 == t234 && (a0_2 == t235 && (a0_3 == t236)))) = false := by simpa using c3
 (try (have c3b1 : decide (a0_0 = t233 && (a0_1 == t234 && (a0_2 == t235 && (a0_3 == t236)))) = false := by simpa using c3))
 (try (have c3b2 : (a0_0 == t233 && (a0_1 == t234 && (a0_2 == t235 && (a0_3 == t236)))) = false := by simpa using c3))
 (try (have c3b3 : ¬ (a0_0 = t233 && (a0_1 == t234 && (a0_2 == t235 && (a0_3 == t236)))) := by simpa using c3))
 clear c3
 rotate_left
 go_enter Tryz.func97, Tryz.ntmps97
 try go_wp2_with (first | ((with_reducible refine gd 1 rfl ?_); refine bx #[.int .i64 a0_0, .int .i64 a0_1, .int .i64 a0_2, .int .i64 a0_3] 25 ?_; intro gb232 hg w4 BK232 hb; have GE232 := ngw0 hg HB; replace HB := bS0 HB hb; clear hb hg; obtain ⟨hcz5_0, hcz5_1, hcz5_2, hcz5_3, hfz5_0, hfz5_1, hfz5_2, hfz5_3⟩ := bz4 BK232))
 rotate_left
 have HC8 := Aside0.mk H
 clear H
 go_enter Tryz.func97, Tryz.ntmps97
 try go_wp2_with (first | ((with_reducible refine gd 1 rfl ?_); refine bx #[.int .i64 a0_0, .int .i64 a0_1, .int .i64 a0_2, .int .i64 a0_3] 25 ?_; intro gb232 hg w4 BK232 hb; have GE232 := ngw0 hg HB; replace HB := bS0 HB hb; clear hb hg; obtain ⟨hcz10_0, hcz10_1, hcz10_2, hcz10_3, hfz10_0, hfz10_1, hfz10_2, hfz10_3⟩ := bz4 BK232))
 rotate_left
 all_goals
  replace BK232 := asd (blk_drew BK232.out)
  replace HB := asd (below_drew1 HB.out)
  refine sh 4 (eb4 BK232) (fun hHeld => ?_)
  generalize w4.drew = w6 at BK232 HB hHeld ⊢
  refine take_ (i := 0) (N := some 10) (v := ?_) (a' := ?_) (bT 4 1) rfl rfl (by kernel_rfl) (fun _ _ _ h => h) (Or.inl ⟨by rfl, ?_⟩) hHeld ?_ ?_
  rotate_left
  ·rintro w' ⟨s0, s1, s2, s3⟩
   go_simp
   with_reducible rfl
  rotate_left
  ·simp only [Act.put, sA, sB, sC, i64_w, i32_w]
   rfl
  refine one_ (i := 1) (N := some 11) (bT 4 2) rfl rfl (by kernel_rfl) (by decide) (fun K hK => ?_)
  refine gs Tryz.func85 #[] ?_
  with_reducible refine (impl_unit.calls _ _ _ _ _ A2.out).mono ?_
  rintro e w7 ⟨rfl, hb⟩
  refine ⟨_, rfl, ?_⟩
  replace BK232 := bB BK232 hb
  replace HB := bS1 HB GE232 hb
  (try clear hb)
  (try clear hb2)
  (try clear hk)
  (try clear hi)
  refine hK.out _ _ (eb4 BK232).out (fun hHeld => ?_)
  clear hK K
  refine norm_ (a' := ?_) ?_ ?_
  rotate_left
  ·show Act.put _ (some 11) _ = _
   simp only [Act.put, sA, sB, sC, i64_w, i32_w]
   rfl
  refine pure_ (i := 2) (N := some 12) (v := ?_) (a' := ?_) (bT 4 3) rfl rfl (by kernel_rfl) (fun _ _ _ h => h) (Or.inl ⟨by rfl, ?_⟩) ?_ ?_
  rotate_left
  ·intro w'
   go_simp
   with_reducible rfl
  rotate_left
  ·simp only [Act.put, sA, sB, sC, i64_w, i32_w]
   rfl
  refine pure_ (i := 3) (N := some 9) (v := ?_) (a' := ?_) (bT 4 4) rfl rfl (by kernel_rfl) (fun _ _ _ h => h) (Or.inl ⟨by rfl, ?_⟩) ?_ ?_
  rotate_left
  ·intro w'
   go_simp
   with_reducible rfl
  rotate_left
  ·simp only [Act.put, sA, sB, sC, i64_w, i32_w]
   rfl
  refine done_ (by kernel_rfl) ?_
 ·try go_wp2
  go_ret
  exact er (bbw1 HB GE232)
 ·go_upto_region 4 with (fail)
  go_cut [13] (fun v13 wc => ∃ (kq : Nat) (x13_7 : Bool), v13 = .bool x13_7 ∧ Aside0 (impl_Mat_order.j0 kq (wrap64 (a0_0 + a0_3)) x13_7 a0_0 a0_1 a0_2 a0_3 = some r) ∧ Aside0 (kq ≤ k) ∧ Aside0 (wc.heap[gb232]? = some (.cells #[.int .i64 a0_0, .int .i64 a0_1, .int .i64 a0_2, .int .i64 a0_3] 25 (0, 0))) ∧ Aside0 (Below w.heap.size w wc))
  case first =>
   have H := HC8.out
   clear HC8
   obtain ⟨t237, A13, H⟩ := ob H
   try dsimp only at H
   by_cases c14 : t237 = (-1)
   rw [if_pos c14] at H
   have c14b0 : (t237 == (-1)) = true := beq_iff_eq.mpr c14
   have c14b1 : (t237 != (-1)) = false := bne_eq_false_iff_eq.mpr c14
   clear c14
   rotate_left
   rw [if_neg c14] at H
   have c14b0 : (t237 == (-1)) = false := beq_eq_false_iff_ne.mpr c14
   have c14b1 : (t237 != (-1)) = true := bne_iff_ne.mpr c14
   rotate_left
   all_goals
    (first | rw [c14b0] | (simp only [i64_w, i32_w]; rw [c14b0]) | skip)
    have H' := Aside0.mk H
    clear H
   obtain ⟨hcz15_0, hcz15_1, hcz15_2, hcz15_3, hfz15_0, hfz15_1, hfz15_2, hfz15_3⟩ := bz4 BK232
   rotate_left
   obtain ⟨hcz17_0, hcz17_1, hcz17_2, hcz17_3, hfz17_0, hfz17_1, hfz17_2, hfz17_3⟩ := bz4 BK232
   rotate_left
   all_goals
    go_wp2_with (first | ((with_reducible refine gate_callee (f := 86) rfl ?_); refine gl 15 Tryz.func86 #[.agg #[.int .i64 a0_0, .int .i64 a0_1, .int .i64 a0_2, .int .i64 a0_3]] ?_; (with_reducible refine (impl_Mat_det.calls _ _ _ _ _ _ A13.out).mono ?_); rintro e w16 ⟨rfl, hb⟩; refine ⟨_, rfl, ?_⟩; replace BK232 := bB BK232 hb; replace HB := bS1 HB GE232 hb; (try clear hb)))
    go_meet
   ·case rel => exact ⟨_, (((wrap64 (a0_0 + a0_3)) == 0)), (by first | rfl | (simp; done) | (simp [*]; done)), H', ⟨by first | omega | exact Nat.le_refl _⟩, ⟨bkp BK232⟩, ⟨bbw1 HB GE232⟩⟩
   ·case rel => exact ⟨_, (false), (by first | rfl | (simp; done) | (simp [*]; done)), H', ⟨by first | omega | exact Nat.le_refl _⟩, ⟨bkp BK232⟩, ⟨bbw1 HB GE232⟩⟩
  case rest =>
   clear HC8
   try clear c1
   try clear p2
   try clear c3
   try clear c3b0
   try clear c3b1
   try clear c3b2
   try clear p6
   try clear c8
   try clear c9
   try clear c14
   try clear c14b0
   try clear c14b1
   try clear hcz10_0
   try clear hcz10_1
   try clear hcz10_2
   try clear hcz10_3
   try clear hcz15_0
   try clear hcz15_1
   try clear hcz15_2
   try clear hcz15_3
   try clear hcz17_0
   try clear hcz17_1
   try clear hcz17_2
   try clear hcz17_3
   try clear hcz5_0
   try clear hcz5_1
   try clear hcz5_2
   try clear hcz5_3
   try clear hfz10_0
   try clear hfz10_1
   try clear hfz10_2
   try clear hfz10_3
   try clear hfz15_0
   try clear hfz15_1
   try clear hfz15_2
   try clear hfz15_3
   try clear hfz17_0
   try clear hfz17_1
   try clear hfz17_2
   try clear hfz17_3
   try clear hfz5_0
   try clear hfz5_1
   try clear hfz5_2
   try clear hfz5_3
   obtain ⟨kq, x13_7, rfl, HA, HJ7, BK232, HB⟩ := hcut
   cases kq with
   | zero => exact absurd HA.out (by simp [impl_Mat_order.j0])
   | succ kj7 =>
    have H := HA.out
    clear HA
    simp only [impl_Mat_order.j0] at H
    have HC19 := Aside0.mk H
    clear H
    go_upto_if 13 with (fail)
    go_cut [13] (fun v13 wc => ∃ (kq : Nat) (x13_18 : Bool), v13 = .bool x13_18 ∧ Aside0 (impl_Mat_order.j1 kq (wrap64 (a0_0 + a0_3)) x13_18 a0_0 a0_1 a0_2 a0_3 = some r) ∧ Aside0 (kq ≤ kj7) ∧ Aside0 (wc.heap[gb232]? = some (.cells #[.int .i64 a0_0, .int .i64 a0_1, .int .i64 a0_2, .int .i64 a0_3] 25 (0, 0))) ∧ Aside0 (Below w.heap.size w wc))
    case first =>
     have H := HC19.out
     clear HC19
     by_cases c20 : x13_7 = true
     ·subst c20
      replace H := ifT H
      have H' := Aside0.mk H
      clear H
      go_wp2
      go_meet
      case rel => exact ⟨_, (true), (by first | rfl | (simp; done) | (simp [*]; done)), H', ⟨by have := HJ7.out; first | omega | exact Nat.le_refl _⟩, ⟨bkp BK232⟩, ⟨bbw1 HB GE232⟩⟩
     ·replace c20 := Bool.eq_false_iff.mpr c20
      subst c20
      replace H := ifF H
      have H' := Aside0.mk H
      clear H
      obtain ⟨hcz21_0, hcz21_1, hcz21_2, hcz21_3, hfz21_0, hfz21_1, hfz21_2, hfz21_3⟩ := bz4 BK232
      go_wp2
      go_meet
      case rel => exact ⟨_, ((a0_0 == (-1) && (a0_1 == 0 && (a0_2 == 0 && (a0_3 == (-1)))))), (by first | rfl | (simp; done) | (simp [*]; done)), H', ⟨by have := HJ7.out; first | omega | exact Nat.le_refl _⟩, ⟨bkp BK232⟩, ⟨bbw1 HB GE232⟩⟩
    case rest =>
     clear HC19
     try clear c1
     try clear c2
     try clear p2
     try clear c3
     try clear c3b0
     try clear c3b1
     try clear c3b2
     try clear p6
     try clear c8
     try clear c9
     try clear c14
     try clear c14b0
     try clear c14b1
     try clear c20
     try clear hcz10_0
     try clear hcz10_1
     try clear hcz10_2
     try clear hcz10_3
     try clear hcz15_0
     try clear hcz15_1
     try clear hcz15_2
     try clear hcz15_3
     try clear hcz17_0
     try clear hcz17_1
     try clear hcz17_2
     try clear hcz17_3
     try clear hcz21_0
     try clear hcz21_1
     try clear hcz21_2
     try clear hcz21_3
     try clear hcz5_0
     try clear hcz5_1
     try clear hcz5_2
     try clear hcz5_3
     try clear hfz10_0
     try clear hfz10_1
     try clear hfz10_2
     try clear hfz10_3
     try clear hfz15_0
     try clear hfz15_1
     try clear hfz15_2
     try clear hfz15_3
     try clear hfz17_0
     try clear hfz17_1
     try clear hfz17_2
     try clear hfz17_3
     try clear hfz21_0
     try clear hfz21_1
     try clear hfz21_2
     try clear hfz21_3
     try clear hfz5_0
     try clear hfz5_1
     try clear hfz5_2
     try clear hfz5_3
     try clear p2
     try clear p6
     obtain ⟨kq, x13_18, rfl, HA, HJ18, BK232, HB⟩ := hcut
     cases kq with
     | zero => exact absurd HA.out (by simp [impl_Mat_order.j1])
     | succ kj18 =>
      have H := HA.out
      clear HA
      simp only [impl_Mat_order.j1] at H
      by_cases c22 : x13_18 = true
      ·subst c22
       replace H := ifT H
       obtain rfl := Option.some.inj H
       go_wp2
       go_ret
       exact er (bbw1 HB GE232)
      ·replace c22 := Bool.eq_false_iff.mpr c22
       subst c22
       replace H := ifF H
       have HC23 := Aside0.mk H
       clear H
       go_upto_region 7 with (fail)
       go_cut [24] (fun v24 wc => ∃ (kq : Nat) (x24_22 : Bool), v24 = .bool x24_22 ∧ Aside0 (impl_Mat_order.j2 kq (wrap64 (a0_0 + a0_3)) x24_22 a0_0 a0_1 a0_2 a0_3 = some r) ∧ Aside0 (kq ≤ kj18) ∧ Aside0 (wc.heap[gb232]? = some (.cells #[.int .i64 a0_0, .int .i64 a0_1, .int .i64 a0_2, .int .i64 a0_3] 25 (0, 0))) ∧ Aside0 (Below w.heap.size w wc))
       case first =>
        have H := HC23.out
        clear HC23
        obtain ⟨t238, A24, H⟩ := ob H
        try dsimp only at H
        by_cases c25 : t238 = 1
        rw [if_pos c25] at H
        have c25b0 : (t238 == 1) = true := beq_iff_eq.mpr c25
        have c25b1 : (t238 != 1) = false := bne_eq_false_iff_eq.mpr c25
        clear c25
        rotate_left
        rw [if_neg c25] at H
        have c25b0 : (t238 == 1) = false := beq_eq_false_iff_ne.mpr c25
        have c25b1 : (t238 != 1) = true := bne_iff_ne.mpr c25
        rotate_left
        all_goals
         (first | rw [c25b0] | (simp only [i64_w, i32_w]; rw [c25b0]) | skip)
         have H' := Aside0.mk H
         clear H
        obtain ⟨hcz26_0, hcz26_1, hcz26_2, hcz26_3, hfz26_0, hfz26_1, hfz26_2, hfz26_3⟩ := bz4 BK232
        rotate_left
        obtain ⟨hcz28_0, hcz28_1, hcz28_2, hcz28_3, hfz28_0, hfz28_1, hfz28_2, hfz28_3⟩ := bz4 BK232
        rotate_left
        all_goals
         go_wp2_with (first | ((with_reducible refine gate_callee (f := 86) rfl ?_); refine gl 26 Tryz.func86 #[.agg #[.int .i64 a0_0, .int .i64 a0_1, .int .i64 a0_2, .int .i64 a0_3]] ?_; (with_reducible refine (impl_Mat_det.calls _ _ _ _ _ _ A24.out).mono ?_); rintro e w27 ⟨rfl, hb⟩; refine ⟨_, rfl, ?_⟩; replace BK232 := bB BK232 hb; replace HB := bS1 HB GE232 hb; (try clear hb)))
         go_meet
        ·case rel => exact ⟨_, (((wrap64 (a0_0 + a0_3)) == (-1))), (by first | rfl | (simp; done) | (simp [*]; done)), H', ⟨by have := HJ7.out; have := HJ18.out; first | omega | exact Nat.le_refl _⟩, ⟨bkp BK232⟩, ⟨bbw1 HB GE232⟩⟩
        ·case rel => exact ⟨_, (false), (by first | rfl | (simp; done) | (simp [*]; done)), H', ⟨by have := HJ7.out; have := HJ18.out; first | omega | exact Nat.le_refl _⟩, ⟨bkp BK232⟩, ⟨bbw1 HB GE232⟩⟩
       case rest =>
        clear HC23
        try clear c1
        try clear c2
        try clear p2
        try clear c3
        try clear c3b0
        try clear c3b1
        try clear c3b2
        try clear p6
        try clear c8
        try clear c9
        try clear c14
        try clear c14b0
        try clear c14b1
        try clear c20
        try clear c22
        try clear c25
        try clear c25b0
        try clear c25b1
        try clear hcz10_0
        try clear hcz10_1
        try clear hcz10_2
        try clear hcz10_3
        try clear hcz15_0
        try clear hcz15_1
        try clear hcz15_2
        try clear hcz15_3
        try clear hcz17_0
        try clear hcz17_1
        try clear hcz17_2
        try clear hcz17_3
        try clear hcz21_0
        try clear hcz21_1
        try clear hcz21_2
        try clear hcz21_3
        try clear hcz26_0
        try clear hcz26_1
        try clear hcz26_2
        try clear hcz26_3
        try clear hcz28_0
        try clear hcz28_1
        try clear hcz28_2
        try clear hcz28_3
        try clear hcz5_0
        try clear hcz5_1
        try clear hcz5_2
        try clear hcz5_3
        try clear hfz10_0
        try clear hfz10_1
        try clear hfz10_2
        try clear hfz10_3
        try clear hfz15_0
        try clear hfz15_1
        try clear hfz15_2
        try clear hfz15_3
        try clear hfz17_0
        try clear hfz17_1
        try clear hfz17_2
        try clear hfz17_3
        try clear hfz21_0
        try clear hfz21_1
        try clear hfz21_2
        try clear hfz21_3
        try clear hfz26_0
        try clear hfz26_1
        try clear hfz26_2
        try clear hfz26_3
        try clear hfz28_0
        try clear hfz28_1
        try clear hfz28_2
        try clear hfz28_3
        try clear hfz5_0
        try clear hfz5_1
        try clear hfz5_2
        try clear hfz5_3
        try clear p2
        try clear p6
        obtain ⟨kq, x24_22, rfl, HA, HJ22, BK232, HB⟩ := hcut
        cases kq with
        | zero => exact absurd HA.out (by simp [impl_Mat_order.j2])
        | succ kj22 =>
         have H := HA.out
         clear HA
         simp only [impl_Mat_order.j2] at H
         by_cases c30 : x24_22 = true
         ·subst c30
          replace H := ifT H
          obtain rfl := Option.some.inj H
          go_wp2
          go_ret
          exact er (bbw1 HB GE232)
         ·replace c30 := Bool.eq_false_iff.mpr c30
          subst c30
          replace H := ifF H
          have HC31 := Aside0.mk H
          clear H
          go_upto_region 9 with (fail)
          go_cut [32] (fun v32 wc => ∃ (kq : Nat) (x32_30 : Bool), v32 = .bool x32_30 ∧ Aside0 (impl_Mat_order.j3 kq (wrap64 (a0_0 + a0_3)) x32_30 a0_0 a0_1 a0_2 a0_3 = some r) ∧ Aside0 (kq ≤ kj22) ∧ Aside0 (wc.heap[gb232]? = some (.cells #[.int .i64 a0_0, .int .i64 a0_1, .int .i64 a0_2, .int .i64 a0_3] 25 (0, 0))) ∧ Aside0 (Below w.heap.size w wc))
          case first =>
           have H := HC31.out
           clear HC31
           obtain ⟨t239, A32, H⟩ := ob H
           try dsimp only at H
           by_cases c33 : t239 = 1
           rw [if_pos c33] at H
           have c33b0 : (t239 == 1) = true := beq_iff_eq.mpr c33
           have c33b1 : (t239 != 1) = false := bne_eq_false_iff_eq.mpr c33
           clear c33
           rotate_left
           rw [if_neg c33] at H
           have c33b0 : (t239 == 1) = false := beq_eq_false_iff_ne.mpr c33
           have c33b1 : (t239 != 1) = true := bne_iff_ne.mpr c33
           rotate_left
           all_goals
            (first | rw [c33b0] | (simp only [i64_w, i32_w]; rw [c33b0]) | skip)
            have H' := Aside0.mk H
            clear H
           obtain ⟨hcz34_0, hcz34_1, hcz34_2, hcz34_3, hfz34_0, hfz34_1, hfz34_2, hfz34_3⟩ := bz4 BK232
           rotate_left
           obtain ⟨hcz36_0, hcz36_1, hcz36_2, hcz36_3, hfz36_0, hfz36_1, hfz36_2, hfz36_3⟩ := bz4 BK232
           rotate_left
           all_goals
            go_wp2_with (first | ((with_reducible refine gate_callee (f := 86) rfl ?_); refine gl 34 Tryz.func86 #[.agg #[.int .i64 a0_0, .int .i64 a0_1, .int .i64 a0_2, .int .i64 a0_3]] ?_; (with_reducible refine (impl_Mat_det.calls _ _ _ _ _ _ A32.out).mono ?_); rintro e w35 ⟨rfl, hb⟩; refine ⟨_, rfl, ?_⟩; replace BK232 := bB BK232 hb; replace HB := bS1 HB GE232 hb; (try clear hb)))
            go_meet
           ·case rel => exact ⟨_, (((wrap64 (a0_0 + a0_3)) == 0)), (by first | rfl | (simp; done) | (simp [*]; done)), H', ⟨by have := HJ7.out; have := HJ18.out; have := HJ22.out; first | omega | exact Nat.le_refl _⟩, ⟨bkp BK232⟩, ⟨bbw1 HB GE232⟩⟩
           ·case rel => exact ⟨_, (false), (by first | rfl | (simp; done) | (simp [*]; done)), H', ⟨by have := HJ7.out; have := HJ18.out; have := HJ22.out; first | omega | exact Nat.le_refl _⟩, ⟨bkp BK232⟩, ⟨bbw1 HB GE232⟩⟩
          case rest =>
           clear HC31
           try clear c1
           try clear c2
           try clear p2
           try clear c3
           try clear c3b0
           try clear c3b1
           try clear c3b2
           try clear p6
           try clear c8
           try clear c9
           try clear c14
           try clear c14b0
           try clear c14b1
           try clear c20
           try clear c22
           try clear c25
           try clear c25b0
           try clear c25b1
           try clear c30
           try clear c33
           try clear c33b0
           try clear c33b1
           try clear hcz10_0
           try clear hcz10_1
           try clear hcz10_2
           try clear hcz10_3
           try clear hcz15_0
           try clear hcz15_1
           try clear hcz15_2
           try clear hcz15_3
           try clear hcz17_0
           try clear hcz17_1
           try clear hcz17_2
           try clear hcz17_3
           try clear hcz21_0
           try clear hcz21_1
           try clear hcz21_2
           try clear hcz21_3
           try clear hcz26_0
           try clear hcz26_1
           try clear hcz26_2
           try clear hcz26_3
           try clear hcz28_0
           try clear hcz28_1
           try clear hcz28_2
           try clear hcz28_3
           try clear hcz34_0
           try clear hcz34_1
           try clear hcz34_2
           try clear hcz34_3
           try clear hcz36_0
           try clear hcz36_1
           try clear hcz36_2
           try clear hcz36_3
           try clear hcz5_0
           try clear hcz5_1
           try clear hcz5_2
           try clear hcz5_3
           try clear hfz10_0
           try clear hfz10_1
           try clear hfz10_2
           try clear hfz10_3
           try clear hfz15_0
           try clear hfz15_1
           try clear hfz15_2
           try clear hfz15_3
           try clear hfz17_0
           try clear hfz17_1
           try clear hfz17_2
           try clear hfz17_3
           try clear hfz21_0
           try clear hfz21_1
           try clear hfz21_2
           try clear hfz21_3
           try clear hfz26_0
           try clear hfz26_1
           try clear hfz26_2
           try clear hfz26_3
           try clear hfz28_0
           try clear hfz28_1
           try clear hfz28_2
           try clear hfz28_3
           try clear hfz34_0
           try clear hfz34_1
           try clear hfz34_2
           try clear hfz34_3
           try clear hfz36_0
           try clear hfz36_1
           try clear hfz36_2
           try clear hfz36_3
           try clear hfz5_0
           try clear hfz5_1
           try clear hfz5_2
           try clear hfz5_3
           try clear p2
           try clear p6
           obtain ⟨kq, x32_30, rfl, HA, HJ30, BK232, HB⟩ := hcut
           cases kq with
           | zero => exact absurd HA.out (by simp [impl_Mat_order.j3])
           | succ kj30 =>
            have H := HA.out
            clear HA
            simp only [impl_Mat_order.j3] at H
            by_cases c38 : x32_30 = true
            subst c38
            replace H := ifT H
            obtain rfl := Option.some.inj H
            rotate_left
            replace c38 := Bool.eq_false_iff.mpr c38
            subst c38
            replace H := ifF H
            obtain ⟨t240, A39, H⟩ := ob H
            try dsimp only at H
            by_cases c40 : t240 = 1
            rw [if_pos c40] at H
            have c40b0 : (t240 == 1) = true := beq_iff_eq.mpr c40
            have c40b1 : (t240 != 1) = false := bne_eq_false_iff_eq.mpr c40
            clear c40
            by_cases c41 : (wrap64 (a0_0 + a0_3)) = 1
            rw [if_pos c41] at H
            have c41b0 : ((wrap64 (a0_0 + a0_3)) == 1) = true := beq_iff_eq.mpr c41
            have c41b1 : ((wrap64 (a0_0 + a0_3)) != 1) = false := bne_eq_false_iff_eq.mpr c41
            clear c41
            obtain rfl := Option.some.inj H
            rotate_left
            rw [if_neg c41] at H
            have c41b0 : ((wrap64 (a0_0 + a0_3)) == 1) = false := beq_eq_false_iff_ne.mpr c41
            have c41b1 : ((wrap64 (a0_0 + a0_3)) != 1) = true := bne_iff_ne.mpr c41
            obtain rfl := Option.some.inj H
            rotate_left
            rw [if_neg c40] at H
            have c40b0 : (t240 == 1) = false := beq_eq_false_iff_ne.mpr c40
            have c40b1 : (t240 != 1) = true := bne_iff_ne.mpr c40
            obtain rfl := Option.some.inj H
            rotate_left
            ·go_wp2
             go_ret
             exact er (bbw1 HB GE232)
            rotate_left 3
            all_goals
             obtain ⟨hcz42_0, hcz42_1, hcz42_2, hcz42_3, hfz42_0, hfz42_1, hfz42_2, hfz42_3⟩ := bz4 BK232
             go_wp2_with (first | ((with_reducible refine gate_callee (f := 86) rfl ?_); refine gl 42 Tryz.func86 #[.agg #[.int .i64 a0_0, .int .i64 a0_1, .int .i64 a0_2, .int .i64 a0_3]] ?_; (with_reducible refine (impl_Mat_det.calls _ _ _ _ _ _ A39.out).mono ?_); rintro e w43 ⟨rfl, hb⟩; refine ⟨_, rfl, ?_⟩; replace BK232 := bB BK232 hb; replace HB := bS1 HB GE232 hb; (try clear hb)))
             go_ret
             exact er (bbw1 HB GE232)
/-! ### impl_Mat_isReflection: function 53 -/
def impl_Mat_isReflection.f (k : Nat) (a0_0 : Int) (a0_1 : Int) (a0_2 : Int) (a0_3 : Int) : Option (Bool) := (impl_Mat_det.f a0_0 a0_1 a0_2 a0_3).bind fun t242 => (if t242 = (-1) then ((impl_Mat_order.f k a0_0 a0_1 a0_2 a0_3).bind fun t243 => (some (t243 == 2))) else (some false))
set_option maxHeartbeats 8000000 in
set_option maxRecDepth 100000 in
theorem impl_Mat_isReflection.calls (k : Nat) (a0_0 : Int) (a0_1 : Int) (a0_2 : Int) (a0_3 : Int) (r : Bool) (w : World) (h : impl_Mat_isReflection.f k a0_0 a0_1 a0_2 a0_3 = some r) :
  Calls Tryz.prog 53 #[.agg #[.int .i64 a0_0, .int .i64 a0_1, .int .i64 a0_2, .int .i64 a0_3]] w fun e w' => e = .returned (.bool r) ∧ Below w.heap.size w w' := by
 have hu25 := Tryz.underlying25
 have HB := asd (Below.refl w.heap.size w)
 have H : ((impl_Mat_det.f a0_0 a0_1 a0_2 a0_3).bind fun t242 => (if t242 = (-1) then ((impl_Mat_order.f k a0_0 a0_1 a0_2 a0_3).bind fun t243 => (some (t243 == 2))) else (some false))) = some r := h
 clear h
 obtain ⟨t242, A2, H⟩ := ob H
 try dsimp only at H
 by_cases c3 : t242 = (-1)
 ·rw [if_pos c3] at H
  have c3b0 : (t242 == (-1)) = true := beq_iff_eq.mpr c3
  have c3b1 : (t242 != (-1)) = false := bne_eq_false_iff_eq.mpr c3
  clear c3
  obtain ⟨t243, A4, H⟩ := ob H
  try dsimp only at H
  obtain rfl := Option.some.inj H
  go_enter Tryz.func53, Tryz.ntmps53
  go_wp2_with (first | ((with_reducible refine gd 1 rfl ?_); refine bx #[.int .i64 a0_0, .int .i64 a0_1, .int .i64 a0_2, .int .i64 a0_3] 25 ?_; intro gb241 hg w5 BK241 hb; have GE241 := ngw0 hg HB; replace HB := bS0 HB hb; clear hb hg; obtain ⟨hcz6_0, hcz6_1, hcz6_2, hcz6_3, hfz6_0, hfz6_1, hfz6_2, hfz6_3⟩ := bz4 BK241) | ((with_reducible refine gate_callee (f := 86) rfl ?_); refine gl 4 Tryz.func86 #[.agg #[.int .i64 a0_0, .int .i64 a0_1, .int .i64 a0_2, .int .i64 a0_3]] ?_; (with_reducible refine (impl_Mat_det.calls _ _ _ _ _ _ A2.out).mono ?_); rintro e w7 ⟨rfl, hb⟩; refine ⟨_, rfl, ?_⟩; replace BK241 := bB BK241 hb; replace HB := bS1 HB GE241 hb; (try clear hb); obtain ⟨hcz8_0, hcz8_1, hcz8_2, hcz8_3, hfz8_0, hfz8_1, hfz8_2, hfz8_3⟩ := bz4 BK241) | (go_at_call 97; (with_reducible refine (impl_Mat_order.calls _ _ _ _ _ _ _ A4.out).mono ?_); rintro e w9 ⟨rfl, hb⟩; replace BK241 := bB BK241 hb; replace HB := bS1 HB GE241 hb; (try clear hb)))
  go_ret
  exact er (bbw1 HB GE241)
 ·rw [if_neg c3] at H
  have c3b0 : (t242 == (-1)) = false := beq_eq_false_iff_ne.mpr c3
  have c3b1 : (t242 != (-1)) = true := bne_iff_ne.mpr c3
  obtain rfl := Option.some.inj H
  go_enter Tryz.func53, Tryz.ntmps53
  go_wp2_with (first | ((with_reducible refine gd 1 rfl ?_); refine bx #[.int .i64 a0_0, .int .i64 a0_1, .int .i64 a0_2, .int .i64 a0_3] 25 ?_; intro gb241 hg w10 BK241 hb; have GE241 := ngw0 hg HB; replace HB := bS0 HB hb; clear hb hg; obtain ⟨hcz11_0, hcz11_1, hcz11_2, hcz11_3, hfz11_0, hfz11_1, hfz11_2, hfz11_3⟩ := bz4 BK241) | ((with_reducible refine gate_callee (f := 86) rfl ?_); refine gl 4 Tryz.func86 #[.agg #[.int .i64 a0_0, .int .i64 a0_1, .int .i64 a0_2, .int .i64 a0_3]] ?_; (with_reducible refine (impl_Mat_det.calls _ _ _ _ _ _ A2.out).mono ?_); rintro e w12 ⟨rfl, hb⟩; refine ⟨_, rfl, ?_⟩; replace BK241 := bB BK241 hb; replace HB := bS1 HB GE241 hb; (try clear hb)))
  go_ret
  exact er (bbw1 HB GE241)
/-! ### impl_gcd: function 54 -/
def impl_gcd.l0 : Nat → Int → Int → Option (Int)
 | 0, _, _ => none
 | k + 1, x0, x1 => if x1 = 0 then (some (mx x0 (wrap64 (-x0)))) else (impl_gcd.l0 k x1 (Int.tmod x0 x1))
def impl_gcd.f (k : Nat) (a0 : Int) (a1 : Int) : Option (Int) := impl_gcd.l0 k a0 a1
set_option maxHeartbeats 8000000 in
set_option maxRecDepth 100000 in
theorem impl_gcd.calls (k : Nat) (a0 : Int) (a1 : Int) (r : Int) (w : World) (h : impl_gcd.f k a0 a1 = some r) :
  Calls Tryz.prog 54 #[.int .i64 a0, .int .i64 a1] w fun e w' => e = .returned (.int .i64 r) ∧ Below w.heap.size w w' := by
 have HB := asd (Below.refl w.heap.size w)
 have H : (impl_gcd.l0 k a0 a1) = some r := h
 clear h
 have H' := Aside0.mk H
 clear H
 go_enter Tryz.func54, Tryz.ntmps54
 go_wp2
 repeat (go_quiet (fail); try go_wp2)
 go_loopg [0, 1] k (fun kq v0 v1 w' => ∃ (x0_1 : Int) (x1_1 : Int), v0 = .int .i64 x0_1 ∧ v1 = .int .i64 x1_1 ∧ Aside0 (impl_gcd.l0 kq x0_1 x1_1 = some r) ∧ Aside0 (kq ≤ k) ∧ Aside0 (Below w.heap.size w w'))
 case atStart => exact ⟨(a0), (a1), (by first | rfl | (simp; done) | (simp [*]; done)), (by first | rfl | (simp; done) | (simp [*]; done)), H', ⟨Nat.le_refl _⟩, ⟨bbw0 HB⟩⟩
 case round =>
  clear H'
  try clear p2
  obtain ⟨x0_1, x1_1, rfl, rfl, HA, HK1, HB⟩ := hrel
  cases gk with
  | zero => exact absurd HA.out (by simp [impl_gcd.l0])
  | succ k1 =>
   have H := HA.out
   clear HA
   simp only [impl_gcd.l0] at H
   by_cases c3 : x1_1 = 0
   ·rw [if_pos c3] at H
    have c3b0 : (x1_1 == 0) = true := beq_iff_eq.mpr c3
    have c3b1 : (x1_1 != 0) = false := bne_eq_false_iff_eq.mpr c3
    clear c3
    obtain ⟨ji4, hji4⟩ : ∃ j_ : Int, (mx x0_1 (wrap64 (-x0_1))) = j_ := ⟨_, rfl⟩
    replace H : (some ji4) = some r := by first | (rw [hji4] at H; first | done | exact H) | (simp only [hji4] at H ⊢; exact H)
    have hji4_ : (if x0_1 < (wrap64 (-x0_1)) then (wrap64 (-x0_1)) else x0_1) = ji4 := hji4
    obtain rfl := Option.some.inj H
    go_wp2
    repeat (go_quiet (fail); try go_wp2)
    go_ret
    exact ⟨by first | rfl | (simp [errW_none, errW_some] <;> rfl) | (simp only [← hji4]; first | rfl | (simp [errW_none, errW_some] <;> rfl)) | (simp [*, errW_none, errW_some] <;> rfl), bbw0 HB⟩
   ·rw [if_neg c3] at H
    have c3b0 : (x1_1 == 0) = false := beq_eq_false_iff_ne.mpr c3
    have c3b1 : (x1_1 != 0) = true := bne_iff_ne.mpr c3
    have H' := Aside0.mk H
    clear H
    go_wp2
    repeat (go_quiet (fail); try go_wp2)
    go_roundg k1
    case measure => have := HK1.out; omega
    case rel => exact ⟨(x1_1), (Int.tmod x0_1 x1_1), (by first | rfl | (simp; done) | (simp [*]; done)), (by first | rfl | (simp; done) | (simp [*]; done)), H', ⟨by have := HK1.out; omega⟩, ⟨bbw0 HB⟩⟩
/-! ### impl_compareNumbers: function 98 -/
def impl_compareNumbers.l0 : Nat → List Int → List Int → Int → Int → Option (Int)
 | 0, _, _, _, _ => none
 | k + 1, x0, x1, x7, x8 => if x8 < x7 then (if 0 ≤ x8 then (if x8 < (x0.length : Int) then (if x8 < (x1.length : Int) then (if (rd x0 x8) = (rd x1 x8) then (impl_compareNumbers.l0 k x0 x1 x7 (wrap64 (x8 + 1))) else (if (rd x0 x8) < (rd x1 x8) then (some (-1)) else (some 1))) else (none)) else (none)) else (none)) else (some 0)
def impl_compareNumbers.f (k : Nat) (l0 : List Int) (l1 : List Int) : Option (Int) := impl_compareNumbers.l0 k l0 l1 (l0.length : Int) 0
set_option maxHeartbeats 8000000 in
set_option maxRecDepth 100000 in
theorem impl_compareNumbers.calls (k : Nat) (A0 : Option Addr) (c0 : Nat) (l0 : List Int) (A1 : Option Addr) (c1 : Nat) (l1 : List Int) (r : Int) (w : World) (hr0 : Kd.C (Kd.int .i64) w A0 l0.length l0) (hc0 : l0.length ≤ c0) (hr1 : Kd.C (Kd.int .i64) w A1 l1.length l1) (hc1 : l1.length ≤ c1) (h : impl_compareNumbers.f k l0 l1 = some r) :
  Calls Tryz.prog 98 #[.slice A0 l0.length c0, .slice A1 l1.length c1] w fun e w' => e = .returned (.int .i64 r) ∧ Drawn0 w w' := by
 have HR0 := Aside0.mk hr0
 have HC0 := Aside0.mk hc0
 clear hr0 hc0
 have HR1 := Aside0.mk hr1
 have HC1 := Aside0.mk hc1
 clear hr1 hc1
 have H : (impl_compareNumbers.l0 k l0 l1 (l0.length : Int) 0) = some r := h
 clear h
 have H' := Aside0.mk H
 clear H
 go_enter Tryz.func98, Tryz.ntmps98
 go_wp2
 repeat (go_quiet (fail); try go_wp2)
 go_loopg [8] k (fun kq v8 w' => ∃ (x8_1 : Int), v8 = .int .i64 x8_1 ∧ Aside0 (impl_compareNumbers.l0 kq l0 l1 (l0.length : Int) x8_1 = some r) ∧ Aside0 (kq ≤ k) ∧ Drawn0 w w')
 case atStart => exact ⟨(0), (by first | rfl | (simp; done) | (simp [*]; done)), H', ⟨Nat.le_refl _⟩, by repeat (first | exact Drawn0.refl _ | apply Drawn0.step)⟩
 case round =>
  clear H'
  try clear c1
  try clear p2
  obtain ⟨x8_1, rfl, HA, HK1, ⟨m1, rfl⟩⟩ := hrel
  cases gk with
  | zero => exact absurd HA.out (by simp [impl_compareNumbers.l0])
  | succ k1 =>
   have H := HA.out
   clear HA
   simp only [impl_compareNumbers.l0] at H
   by_cases c3 : x8_1 < (l0.length : Int)
   rw [if_pos c3] at H
   have c3b0 := decide_eq_true c3
   clear c3
   by_cases c4 : 0 ≤ x8_1
   rw [if_pos c4] at H
   have c4b0 := decide_eq_true c4
   clear c4
   by_cases c5 : x8_1 < (l0.length : Int)
   rw [if_pos c5] at H
   have c5b0 := decide_eq_true c5
   clear c5
   by_cases c6 : x8_1 < (l1.length : Int)
   rw [if_pos c6] at H
   have c6b0 := decide_eq_true c6
   clear c6
   by_cases c7 : (rd l0 x8_1) = (rd l1 x8_1)
   rw [if_pos c7] at H
   have c7b0 : ((rd l0 x8_1) == (rd l1 x8_1)) = true := beq_iff_eq.mpr c7
   have c7b1 : ((rd l0 x8_1) != (rd l1 x8_1)) = false := bne_eq_false_iff_eq.mpr c7
   clear c7
   have H' := Aside0.mk H
   clear H
   rotate_left
   rw [if_neg c7] at H
   have c7b0 : ((rd l0 x8_1) == (rd l1 x8_1)) = false := beq_eq_false_iff_ne.mpr c7
   have c7b1 : ((rd l0 x8_1) != (rd l1 x8_1)) = true := bne_iff_ne.mpr c7
   by_cases c8 : (rd l0 x8_1) < (rd l1 x8_1)
   rw [if_pos c8] at H
   have c8b0 := decide_eq_true c8
   clear c8
   obtain rfl := Option.some.inj H
   rotate_left
   rw [if_neg c8] at H
   have c8b0 := decide_eq_false c8
   clear c8
   obtain rfl := Option.some.inj H
   rotate_left
   ·rw [if_neg c6] at H
    exact absurd H (by simp)
   ·rw [if_neg c5] at H
    exact absurd H (by simp)
   ·rw [if_neg c4] at H
    exact absurd H (by simp)
   rw [if_neg c3] at H
   have c3b0 := decide_eq_false c3
   clear c3
   obtain rfl := Option.some.inj H
   rotate_left
   rotate_left 3
   ·go_wp2
    repeat (go_quiet (fail); try go_wp2)
    go_ret
    exact ⟨by first | rfl | (simp; done) | (simp [*]; done), by repeat (first | exact Drawn0.refl _ | apply Drawn0.step)⟩
   all_goals
    have p244 : 0 ≤ (x8_1 : Int) := od
    have q244 : x8_1 < (l0.length : Int) := od
    obtain ⟨ad244, e244, hx244_0⟩ := Kd.at_int HR0.out x8_1 p244 q244
    cases e244
    replace p244 := eq_true p244
    replace q244 := eq_true q244
    have p245 : 0 ≤ (x8_1 : Int) := od
    have q245 : x8_1 < (l1.length : Int) := od
    obtain ⟨ad245, e245, hx245_0⟩ := Kd.at_int HR1.out x8_1 p245 q245
    cases e245
    replace p245 := eq_true p245
    replace q245 := eq_true q245
   ·go_wp2
    repeat (go_quiet (fail); try go_wp2)
    go_roundg k1
    case measure => have := HK1.out; omega
    case rel => exact ⟨(wrap64 (x8_1 + 1)), (by first | rfl | (simp; done) | (simp [*]; done)), H', ⟨by have := HK1.out; omega⟩, by repeat (first | exact Drawn0.refl _ | apply Drawn0.step)⟩
   rotate_left 2
   all_goals
    have p246 : 0 ≤ (x8_1 : Int) := od
    have q246 : x8_1 < (l0.length : Int) := od
    obtain ⟨ad246, e246, hx246_0⟩ := Kd.at_int HR0.out x8_1 p246 q246
    obtain rfl : ad244 = ad246 := (by injection e246)
    replace p246 := eq_true p246
    replace q246 := eq_true q246
    have p247 : 0 ≤ (x8_1 : Int) := od
    have q247 : x8_1 < (l1.length : Int) := od
    obtain ⟨ad247, e247, hx247_0⟩ := Kd.at_int HR1.out x8_1 p247 q247
    obtain rfl : ad245 = ad247 := (by injection e247)
    replace p247 := eq_true p247
    replace q247 := eq_true q247
    go_wp2
    repeat (go_quiet (fail); try go_wp2)
    go_ret
    exact ⟨by first | rfl | (simp; done) | (simp [*]; done), by repeat (first | exact Drawn0.refl _ | apply Drawn0.step)⟩
/-! ### impl_compareVecs: function 55 -/
def impl_compareVecs.f (k : Nat) (a0_0 : Int) (a0_1 : Int) (a1_0 : Int) (a1_1 : Int) : Option (Int) := (impl_compareNumbers.f k (([a0_0, a0_1] : List Int)) (([a1_0, a1_1] : List Int))).bind fun t256 => (some t256)
set_option maxHeartbeats 8000000 in
set_option maxRecDepth 100000 in
theorem impl_compareVecs.calls (k : Nat) (a0_0 : Int) (a0_1 : Int) (a1_0 : Int) (a1_1 : Int) (r : Int) (w : World) (h : impl_compareVecs.f k a0_0 a0_1 a1_0 a1_1 = some r) :
  Calls Tryz.prog 55 #[.agg #[.int .i64 a0_0, .int .i64 a0_1], .agg #[.int .i64 a1_0, .int .i64 a1_1]] w fun e w' => e = .returned (.int .i64 r) ∧ Below w.heap.size w w' := by
 have hu27 := Tryz.underlying27
 have HB := asd (Below.refl w.heap.size w)
 have H : ((impl_compareNumbers.f k (([a0_0, a0_1] : List Int)) (([a1_0, a1_1] : List Int))).bind fun t256 => (some t256)) = some r := h
 clear h
 obtain ⟨y250, hy250⟩ : ∃ y_ : List Int, y_ = (([a0_0, a0_1] : List Int)) := ⟨_, rfl⟩
 replace H : ((impl_compareNumbers.f k y250 (([a1_0, a1_1] : List Int))).bind fun t256 => (some t256)) = some r := by first | (rw [hy250]; with_reducible exact H) | (have H2_ := (Option.bind_some _ _).symm.trans H; rw [hy250]; with_reducible exact H2_) | (have H2_ := (Option.bind_some _ _).symm.trans H; with_reducible exact H2_) | with_reducible exact H | (rw [hy250]; exact H) | exact H
 have Ny250 := Aside0.mk hy250
 clear hy250
 obtain ⟨y253, hy253⟩ : ∃ y_ : List Int, y_ = (([a1_0, a1_1] : List Int)) := ⟨_, rfl⟩
 replace H : ((impl_compareNumbers.f k y250 y253).bind fun t256 => (some t256)) = some r := by first | (rw [hy253]; with_reducible exact H) | (have H2_ := (Option.bind_some _ _).symm.trans H; rw [hy253]; with_reducible exact H2_) | (have H2_ := (Option.bind_some _ _).symm.trans H; with_reducible exact H2_) | with_reducible exact H | (rw [hy253]; exact H) | exact H
 have Ny253 := Aside0.mk hy253
 clear hy253
 obtain ⟨t256, A3, H⟩ := ob H
 try dsimp only at H
 obtain rfl := Option.some.inj H
 go_enter Tryz.func55, Tryz.ntmps55
 go_wp2_with (first | ((with_reducible refine gd 2 rfl ?_); refine bx #[.int .i64 a0_0, .int .i64 a0_1] 27 ?_; intro gb248 hg w4 BK248 hb; have GE248 := ngw0 hg HB; replace HB := bS0 HB hb; clear hb hg) | ((with_reducible refine gd 3 rfl ?_); refine bx #[.int .i64 a1_0, .int .i64 a1_1] 27 ?_; intro gb249 hg w5 BK249 hb; have GE249 := ngw1 hg HB GE248; replace HB := bS1 HB GE248 hb; have NB248_249 := nlt hg BK248; have NB249_248 := nsy (nlt hg BK248); replace BK248 := bB BK248 hb; clear hb hg; have hnb6 := NB248_249.out; have hnc6 := NB249_248.out; obtain ⟨hcz7_0, hcz7_1, hfz7_0, hfz7_1⟩ := bz2 BK248) | ((with_reducible refine gd 9 rfl ?_); refine Kd.R_lit (Kd.int .i64) _ 2 ?hg (N := 9) ?hd (xs := ([a0_0, a0_1] : List Int)) (inner := [.int .i64 a0_0, .int .i64 a0_1]) (ok := fun _ => True) (okp := fun _ => True) ?hr ?hp (fun _ hk => hk) trivial (Below.refl _ _) (Nat.le_refl _) (by simp) ?_; (case hd => rfl); (case hg => rfl); (case hr => first | (go_simp; done) | (go_simp; rfl)); (case hp => exact (Reps.one (show Kd.M (Kd.int .i64) _ _ _ a0_0 [.int .i64 a0_0] from rfl) (Reps.one (show Kd.M (Kd.int .i64) _ _ _ a0_1 [.int .i64 a0_1] from rfl) (Reps.none _ _)))); intro v251 w8 ho9 hb hg_ hnew_; clear hg_ hnew_; (first | rw [← Ny250.out] at ho9 | (simp only [Int.reduceToNat] at ho9; rw [← Ny250.out] at ho9)); have HO252 := asd (Kd.R_lower ho9 (bsz2 HB GE248 GE249)); replace BK248 := bB BK248 hb; replace BK249 := bB BK249 hb; replace HB := bS2 HB GE248 GE249 hb; clear hb ho9; obtain ⟨hcz10_0, hcz10_1, hfz10_0, hfz10_1⟩ := bz2 BK249) | ((with_reducible refine gd 14 rfl ?_); refine Kd.R_lit (Kd.int .i64) _ 2 ?hg (N := 14) ?hd (xs := ([a1_0, a1_1] : List Int)) (inner := [.int .i64 a1_0, .int .i64 a1_1]) (ok := fun _ => True) (okp := fun _ => True) ?hr ?hp (fun _ hk => hk) trivial (Below.refl _ _) (Nat.le_refl _) (by simp) ?_; (case hd => rfl); (case hg => rfl); (case hr => first | (go_simp; done) | (go_simp; rfl)); (case hp => exact (Reps.one (show Kd.M (Kd.int .i64) _ _ _ a1_0 [.int .i64 a1_0] from rfl) (Reps.one (show Kd.M (Kd.int .i64) _ _ _ a1_1 [.int .i64 a1_1] from rfl) (Reps.none _ _)))); intro v254 w11 ho12 hb hg_ hnew_; clear hg_ hnew_; (first | rw [← Ny253.out] at ho12 | (simp only [Int.reduceToNat] at ho12; rw [← Ny253.out] at ho12)); have HO255 := asd (Kd.R_lower (Kd.R_new' ho12 (Kd.R_lt (kr HO252))) (bsz2 HB GE248 GE249)); replace HO252 := asd (Kd.R_elder' (kr HO252) (Kd.R_base ho12) hb); replace BK248 := bB BK248 hb; replace BK249 := bB BK249 hb; replace HB := bS2 HB GE248 GE249 hb; clear hb ho12; obtain ⟨Ao13, co13, eo13⟩ := Kd.R_slice HO252.out; subst eo13; obtain ⟨Ao14, co14, eo14⟩ := Kd.R_slice HO255.out; subst eo14) | ((with_reducible refine gate_callee (f := 98) rfl ?_); refine gl 15 Tryz.func98 #[.slice Ao13 y250.length co13, .slice Ao14 y253.length co14] ?_; (with_reducible refine (impl_compareNumbers.calls _ _ _ _ _ _ _ _ _ ?side1 ?side2 ?side3 ?side4 A3.out).mono ?_); (case side1 => exact ks (Kd.R_reads' HO252.out).2.2); (case side2 => exact (Kd.R_reads' HO252.out).2.1); (case side3 => exact ks (Kd.R_reads' HO255.out).2.2); (case side4 => exact (Kd.R_reads' HO255.out).2.1); rintro e w' ⟨rfl, ⟨nd, rfl⟩⟩; refine ⟨_, rfl, ?_⟩))
 go_ret
 exact er (bbw2 HB GE248 GE249)
/-! ### impl_Vec_times: function 56 -/
def impl_Vec_times.f (a0_0 : Int) (a0_1 : Int) (a1 : Int) : Option (Int × Int) := some (wrap64 (a1 * a0_0), wrap64 (a1 * a0_1))
set_option maxHeartbeats 8000000 in
set_option maxRecDepth 100000 in
theorem impl_Vec_times.calls (a0_0 : Int) (a0_1 : Int) (a1 : Int) (r1 : Int) (r2 : Int) (w : World) (h : impl_Vec_times.f a0_0 a0_1 a1 = some (r1, r2)) :
  Calls Tryz.prog 56 #[.agg #[.int .i64 a0_0, .int .i64 a0_1], .int .i64 a1] w fun e w' => e = .returned (.agg #[.int .i64 r1, .int .i64 r2]) ∧ Below w.heap.size w w' := by
 have hu27 := Tryz.underlying27
 have HB := asd (Below.refl w.heap.size w)
 have H : (some (wrap64 (a1 * a0_0), wrap64 (a1 * a0_1))) = some (r1, r2) := h
 clear h
 simp only [Option.some.injEq, Prod.mk.injEq] at H
 obtain ⟨rfl, rfl⟩ := H
 go_enter Tryz.func56, Tryz.ntmps56
 go_wp2_with (first | ((with_reducible refine gd 2 rfl ?_); refine bx #[.int .i64 a0_0, .int .i64 a0_1] 27 ?_; intro gb257 hg w3 BK257 hb; have GE257 := ngw0 hg HB; replace HB := bS0 HB hb; clear hb hg) | ((with_reducible refine gd 4 rfl ?_); refine bx #[.int .i64 0, .int .i64 0] 27 ?_; intro gb258 hg w4 BK258 hb; have GE258 := ngw1 hg HB GE257; replace HB := bS1 HB GE257 hb; have NB257_258 := nlt hg BK257; have NB258_257 := nsy (nlt hg BK257); replace BK257 := bB BK257 hb; clear hb hg; have hnb5 := NB257_258.out; have hnc5 := NB258_257.out; obtain ⟨hcz6_0, hcz6_1, hfz6_0, hfz6_1⟩ := bz2 BK257; obtain ⟨hcz7_0, hcz7_1, hfz7_0, hfz7_1⟩ := bz2 BK258))
 refine bodyPost_ret (results_cell_row rfl _ _ gb258 27 #[.int .i64 (wrap64 (a1 * a0_0)), .int .i64 (wrap64 (a1 * a0_1))] (0, 0) _ rfl (bq0 BK258) Tryz.underlying27 rfl (by kernel_rfl)) rfl ?_
 exact er (bbw2 HB GE257 GE258)
/-! ### impl_IsVec: function 37 -/
def impl_IsVec.f (a0_0 : Int) (a0_1 : Int) : Option (Bool) := (impl_isCoordinate.f a0_0).bind fun t260 => (if t260 = true then ((impl_isCoordinate.f a0_1).bind fun t261 => (some t261)) else (some false))
set_option maxHeartbeats 8000000 in
set_option maxRecDepth 100000 in
theorem impl_IsVec.calls (a0_0 : Int) (a0_1 : Int) (r : Bool) (w : World) (h : impl_IsVec.f a0_0 a0_1 = some r) :
  Calls Tryz.prog 37 #[.agg #[.int .i64 a0_0, .int .i64 a0_1]] w fun e w' => e = .returned (.bool r) ∧ Below w.heap.size w w' := by
 have hu27 := Tryz.underlying27
 have HB := asd (Below.refl w.heap.size w)
 have H : ((impl_isCoordinate.f a0_0).bind fun t260 => (if t260 = true then ((impl_isCoordinate.f a0_1).bind fun t261 => (some t261)) else (some false))) = some r := h
 clear h
 obtain ⟨t260, A2, H⟩ := ob H
 try dsimp only at H
 by_cases c3 : t260 = true
 subst c3
 replace H := ifT H
 obtain ⟨t261, A4, H⟩ := ob H
 try dsimp only at H
 obtain rfl := Option.some.inj H
 rotate_left
 replace c3 := Bool.eq_false_iff.mpr c3
 subst c3
 replace H := ifF H
 obtain rfl := Option.some.inj H
 rotate_left
 all_goals
  go_enter Tryz.func37, Tryz.ntmps37
  go_wp2_with (first | ((with_reducible refine gd 1 rfl ?_); refine bx #[.int .i64 a0_0, .int .i64 a0_1] 27 ?_; intro gb259 hg w5 BK259 hb; have GE259 := ngw0 hg HB; replace HB := bS0 HB hb; clear hb hg; obtain ⟨hcz6_0, hcz6_1, hfz6_0, hfz6_1⟩ := bz2 BK259) | ((with_reducible refine gate_callee (f := 88) rfl ?_); refine gl 5 Tryz.func88 #[.int .i64 a0_0] ?_; (with_reducible refine (impl_isCoordinate.calls _ _ _ A2.out).mono ?_); rintro e w' ⟨rfl, ⟨nd, rfl⟩⟩; refine ⟨_, rfl, ?_⟩) | (go_at_call 88; (with_reducible refine (impl_isCoordinate.calls _ _ _ A4.out).mono ?_); rintro e w' ⟨rfl, ⟨nd, rfl⟩⟩))
  go_ret
  exact er (bbw1 HB GE259)
/-! ### impl_limited: function 57 -/
def impl_limited.f (a0_0 : Int) (a0_1 : Int) : Option (Int × Int × Int) := (impl_IsVec.f a0_0 a0_1).bind fun t264 => (if t264 = true then (some (a0_0, a0_1, 0)) else (some (0, 0, 3)))
set_option maxHeartbeats 8000000 in
set_option maxRecDepth 100000 in
theorem impl_limited.calls (a0_0 : Int) (a0_1 : Int) (r1 : Int) (r2 : Int) (r3 : Int) (w : World) (h : impl_limited.f a0_0 a0_1 = some (r1, r2, r3)) :
  Calls Tryz.prog 57 #[.agg #[.int .i64 a0_0, .int .i64 a0_1]] w fun e w' => e = .returned (.tuple #[.agg #[.int .i64 r1, .int .i64 r2], .int .i64 r3]) ∧ Below w.heap.size w w' := by
 have hu27 := Tryz.underlying27
 have HB := asd (Below.refl w.heap.size w)
 have H : ((impl_IsVec.f a0_0 a0_1).bind fun t264 => (if t264 = true then (some (a0_0, a0_1, 0)) else (some (0, 0, 3)))) = some (r1, r2, r3) := h
 clear h
 obtain ⟨t264, A2, H⟩ := ob H
 try dsimp only at H
 by_cases c3 : t264 = true
 ·subst c3
  replace H := ifT H
  simp only [Option.some.injEq, Prod.mk.injEq] at H
  obtain ⟨rfl, rfl, rfl⟩ := H
  go_enter Tryz.func57, Tryz.ntmps57
  go_wp2_with (first | ((with_reducible refine gd 1 rfl ?_); refine bx #[.int .i64 a0_0, .int .i64 a0_1] 27 ?_; intro gb262 hg w4 BK262 hb; have GE262 := ngw0 hg HB; replace HB := bS0 HB hb; clear hb hg) | ((with_reducible refine gd 2 rfl ?_); refine bx #[.int .i64 0, .int .i64 0] 27 ?_; intro gb263 hg w5 BK263 hb; have GE263 := ngw1 hg HB GE262; replace HB := bS1 HB GE262 hb; have NB262_263 := nlt hg BK262; have NB263_262 := nsy (nlt hg BK262); replace BK262 := bB BK262 hb; clear hb hg; have hnb6 := NB262_263.out; have hnc6 := NB263_262.out; obtain ⟨hcz7_0, hcz7_1, hfz7_0, hfz7_1⟩ := bz2 BK262) | ((with_reducible refine gate_callee (f := 37) rfl ?_); refine gl 5 Tryz.func37 #[.agg #[.int .i64 a0_0, .int .i64 a0_1]] ?_; (with_reducible refine (impl_IsVec.calls _ _ _ _ A2.out).mono ?_); rintro e w8 ⟨rfl, hb⟩; refine ⟨_, rfl, ?_⟩; replace BK262 := bB BK262 hb; replace BK263 := bB BK263 hb; replace HB := bS2 HB GE262 GE263 hb; (try clear hb); obtain ⟨hcz9_0, hcz9_1, hfz9_0, hfz9_1⟩ := bz2 BK262; obtain ⟨hcz10_0, hcz10_1, hfz10_0, hfz10_1⟩ := bz2 BK263))
  refine bodyPost_ret (results_ct rfl _ _ gb263 27 #[.int .i64 a0_0, .int .i64 a0_1] (0, 0) _ rfl (bq0 BK263) Tryz.underlying27 rfl (by kernel_rfl)) rfl ?_
  exact er (bbw2 HB GE262 GE263)
 ·replace c3 := Bool.eq_false_iff.mpr c3
  subst c3
  replace H := ifF H
  simp only [Option.some.injEq, Prod.mk.injEq] at H
  obtain ⟨rfl, rfl, rfl⟩ := H
  go_enter Tryz.func57, Tryz.ntmps57
  go_wp2_with (first | ((with_reducible refine gd 1 rfl ?_); refine bx #[.int .i64 a0_0, .int .i64 a0_1] 27 ?_; intro gb262 hg w11 BK262 hb; have GE262 := ngw0 hg HB; replace HB := bS0 HB hb; clear hb hg) | ((with_reducible refine gd 2 rfl ?_); refine bx #[.int .i64 0, .int .i64 0] 27 ?_; intro gb263 hg w12 BK263 hb; have GE263 := ngw1 hg HB GE262; replace HB := bS1 HB GE262 hb; have NB262_263 := nlt hg BK262; have NB263_262 := nsy (nlt hg BK262); replace BK262 := bB BK262 hb; clear hb hg; have hnb13 := NB262_263.out; have hnc13 := NB263_262.out; obtain ⟨hcz14_0, hcz14_1, hfz14_0, hfz14_1⟩ := bz2 BK262) | ((with_reducible refine gate_callee (f := 37) rfl ?_); refine gl 5 Tryz.func37 #[.agg #[.int .i64 a0_0, .int .i64 a0_1]] ?_; (with_reducible refine (impl_IsVec.calls _ _ _ _ A2.out).mono ?_); rintro e w15 ⟨rfl, hb⟩; refine ⟨_, rfl, ?_⟩; replace BK262 := bB BK262 hb; replace BK263 := bB BK263 hb; replace HB := bS2 HB GE262 GE263 hb; (try clear hb); obtain ⟨hcz16_0, hcz16_1, hfz16_0, hfz16_1⟩ := bz2 BK263))
  refine bodyPost_ret (results_ct rfl _ _ gb263 27 #[.int .i64 0, .int .i64 0] (0, 0) _ rfl (bq0 BK263) Tryz.underlying27 rfl (by kernel_rfl)) rfl ?_
  exact er (bbw2 HB GE262 GE263)

attribute [local go_sem high] eqA27
/-! ### impl_AxisOf: function 16 -/
def impl_AxisOf.j0 : Nat → Int → Int → Option (Int × Int × Int)
 | 0, _, _ => none
 | k + 1, x270000, x270001 => (impl_gcd.f k x270000 x270001).bind fun t270 => (if t270 = 0 then (none) else ((impl_compareVecs.f k (wrap64 (Int.tdiv x270000 t270)) (wrap64 (Int.tdiv x270001 t270)) 0 0).bind fun t271 => (if t271 < 0 then ((impl_Vec_times.f (wrap64 (Int.tdiv x270000 t270)) (wrap64 (Int.tdiv x270001 t270)) (-1)).bind fun bt272 => ((impl_limited.f bt272.1 bt272.2).bind fun bt274 => (some (bt274.1, bt274.2.1, bt274.2.2)))) else ((impl_limited.f (wrap64 (Int.tdiv x270000 t270)) (wrap64 (Int.tdiv x270001 t270))).bind fun bt277 => (some (bt277.1, bt277.2.1, bt277.2.2))))))
def impl_AxisOf.f (k : Nat) (a0_0 : Int) (a0_1 : Int) (a0_2 : Int) (a0_3 : Int) : Option (Int × Int × Int) := (impl_IsMat.f a0_0 a0_1 a0_2 a0_3).bind fun t267 => (if t267 = true then ((impl_Mat_isReflection.f k a0_0 a0_1 a0_2 a0_3).bind fun t268 => (if t268 = true then (if (a0_1 == 0 && ((wrap64 (1 - a0_0)) == 0)) = true then (impl_AxisOf.j0 k (wrap64 (1 - a0_3)) a0_2) else (impl_AxisOf.j0 k a0_1 (wrap64 (1 - a0_0)))) else (some (0, 0, 5)))) else (some (0, 0, 1)))
def impl_AxisOf.T9 : Bool × List (List Nat × List Nat) := (true, [([], []), ([0], [0]), ([], []), ([1, 2], [1, 2]), ([], []), ([4], [4]), ([], []), ([5, 6], [5, 6]), ([3, 7], [3, 7]), ([8, 0, 1, 2, 3, 4, 5, 6, 7, 8], [8])])
def impl_AxisOf.B9 : List Nat := [0, 1, 0, 7, 0, 16, 0, 112, 255, 511]
theorem impl_AxisOf.tab9 : rtab .any (opsOf Tryz.f16 9) = impl_AxisOf.T9 := by kernel_rfl
theorem impl_AxisOf.bits9 : waitsOk impl_AxisOf.T9.2 impl_AxisOf.B9 = true := by kernel_rfl
set_option maxHeartbeats 8000000 in
set_option maxRecDepth 100000 in
theorem impl_AxisOf.calls (k : Nat) (a0_0 : Int) (a0_1 : Int) (a0_2 : Int) (a0_3 : Int) (r1 : Int) (r2 : Int) (r3 : Int) (w : World) (h : impl_AxisOf.f k a0_0 a0_1 a0_2 a0_3 = some (r1, r2, r3)) :
  Calls Tryz.prog 16 #[.agg #[.int .i64 a0_0, .int .i64 a0_1, .int .i64 a0_2, .int .i64 a0_3]] w fun e w' => e = .returned (.tuple #[.agg #[.int .i64 r1, .int .i64 r2], .int .i64 r3]) ∧ Below w.heap.size w w' := by
 have hu25 := Tryz.underlying25
 have hu27 := Tryz.underlying27
 have HB := asd (Below.refl w.heap.size w)
 have H : ((impl_IsMat.f a0_0 a0_1 a0_2 a0_3).bind fun t267 => (if t267 = true then ((impl_Mat_isReflection.f k a0_0 a0_1 a0_2 a0_3).bind fun t268 => (if t268 = true then (if (a0_1 == 0 && ((wrap64 (1 - a0_0)) == 0)) = true then (impl_AxisOf.j0 k (wrap64 (1 - a0_3)) a0_2) else (impl_AxisOf.j0 k a0_1 (wrap64 (1 - a0_0)))) else (some (0, 0, 5)))) else (some (0, 0, 1)))) = some (r1, r2, r3) := h
 clear h
 obtain ⟨t267, A2, H⟩ := ob H
 try dsimp only at H
 by_cases c3 : t267 = true
 ·subst c3
  replace H := ifT H
  obtain ⟨t268, A4, H⟩ := ob H
  try dsimp only at H
  by_cases c5 : t268 = true
  ·subst c5
   replace H := ifT H
   have HC6 := Aside0.mk H
   clear H
   go_enter Tryz.func16, Tryz.ntmps16
   go_upto_if 22 with (first | ((with_reducible refine gd 1 rfl ?_); refine bx #[.int .i64 a0_0, .int .i64 a0_1, .int .i64 a0_2, .int .i64 a0_3] 25 ?_; intro gb265 hg w7 BK265 hb; have GE265 := ngw0 hg HB; replace HB := bS0 HB hb; clear hb hg) | ((with_reducible refine gd 2 rfl ?_); refine bx #[.int .i64 0, .int .i64 0] 27 ?_; intro gb266 hg w8 BK266 hb; have GE266 := ngw1 hg HB GE265; replace HB := bS1 HB GE265 hb; have NB265_266 := nlt hg BK265; have NB266_265 := nsy (nlt hg BK265); replace BK265 := bB BK265 hb; clear hb hg; have hnb9 := NB265_266.out; have hnc9 := NB266_265.out; obtain ⟨hcz10_0, hcz10_1, hcz10_2, hcz10_3, hfz10_0, hfz10_1, hfz10_2, hfz10_3⟩ := bz4 BK265) | ((with_reducible refine gate_callee (f := 52) rfl ?_); refine gl 7 Tryz.func52 #[.agg #[.int .i64 a0_0, .int .i64 a0_1, .int .i64 a0_2, .int .i64 a0_3]] ?_; (with_reducible refine (impl_IsMat.calls _ _ _ _ _ _ A2.out).mono ?_); rintro e w11 ⟨rfl, hb⟩; refine ⟨_, rfl, ?_⟩; replace BK265 := bB BK265 hb; replace BK266 := bB BK266 hb; replace HB := bS2 HB GE265 GE266 hb; (try clear hb); obtain ⟨hcz12_0, hcz12_1, hcz12_2, hcz12_3, hfz12_0, hfz12_1, hfz12_2, hfz12_3⟩ := bz4 BK265) | ((with_reducible refine gate_callee (f := 53) rfl ?_); refine gl 11 Tryz.func53 #[.agg #[.int .i64 a0_0, .int .i64 a0_1, .int .i64 a0_2, .int .i64 a0_3]] ?_; (with_reducible refine (impl_Mat_isReflection.calls _ _ _ _ _ _ _ A4.out).mono ?_); rintro e w13 ⟨rfl, hb⟩; refine ⟨_, rfl, ?_⟩; replace BK265 := bB BK265 hb; replace BK266 := bB BK266 hb; replace HB := bS2 HB GE265 GE266 hb; (try clear hb); obtain ⟨hcz14_0, hcz14_1, hcz14_2, hcz14_3, hfz14_0, hfz14_1, hfz14_2, hfz14_3⟩ := bz4 BK265) | ((with_reducible refine gd 4 rfl ?_); refine bx #[.int .i64 0, .int .i64 0] 27 ?_; intro gb269 hg w15 BK269 hb; have GE269 := ngw2 hg HB GE265 GE266; replace HB := bS2 HB GE265 GE266 hb; have NB265_269 := nlt hg BK265; have NB269_265 := nsy (nlt hg BK265); replace BK265 := bB BK265 hb; have NB266_269 := nlt hg BK266; have NB269_266 := nsy (nlt hg BK266); replace BK266 := bB BK266 hb; clear hb hg; have hnb16 := NB269_265.out; have hnc16 := NB265_269.out; have hnb17 := NB269_266.out; have hnc17 := NB266_269.out; obtain ⟨hcz18_0, hcz18_1, hfz18_0, hfz18_1⟩ := bz2 BK269))
   (try simp only [Act.put, sA, sB, sC])
   go_cut [] (fun wc => ∃ (kq : Nat) (x270000_5 : Int) (x270001_5 : Int), Aside0 (impl_AxisOf.j0 kq x270000_5 x270001_5 = some (r1, r2, r3)) ∧ Aside0 (kq ≤ k) ∧ Aside0 (wc.heap[gb265]? = some (.cells #[.int .i64 a0_0, .int .i64 a0_1, .int .i64 a0_2, .int .i64 a0_3] 25 (0, 0))) ∧ Aside0 (wc.heap[gb266]? = some (.cells #[.int .i64 0, .int .i64 0] 27 (0, 0))) ∧ Aside0 (wc.heap[gb269]? = some (.cells #[.int .i64 x270000_5, .int .i64 x270001_5] 27 (0, 0))) ∧ Aside0 (Below w.heap.size w wc))
   case first =>
    have H := HC6.out
    clear HC6
    by_cases c19 : (a0_1 == 0 && ((wrap64 (1 - a0_0)) == 0)) = true
    ·rw [if_pos c19] at H
     have c19b0 := c19
     (try (have c19b1 : decide (a0_1 = 0 && ((wrap64 (1 - a0_0)) == 0)) = true := by simpa using c19))
     (try (have c19b2 : (a0_1 == 0 && ((wrap64 (1 - a0_0)) == 0)) = true := by simpa using c19))
     clear c19
     (first | rw [c19b0] | (simp only [i64_w, i32_w]; rw [c19b0]) | skip)
     have H' := Aside0.mk H
     clear H
     have hnb20 := NB265_266.out
     have hnc20 := NB266_265.out
     have hnb21 := NB265_269.out
     have hnc21 := NB269_265.out
     obtain ⟨hcz22_0, hcz22_1, hcz22_2, hcz22_3, hfz22_0, hfz22_1, hfz22_2, hfz22_3⟩ := bz4 BK265
     have hnb23 := NB269_266.out
     have hnc23 := NB266_269.out
     obtain ⟨hcz24_0, hcz24_1, hfz24_0, hfz24_1⟩ := bz2 BK269
     go_wp2
     go_meet
     case rel => exact ⟨_, (wrap64 (1 - a0_3)), (a0_2), H', ⟨by first | omega | exact Nat.le_refl _⟩, ⟨bq1 BK265 NB265_269⟩, ⟨bq1 BK266 NB266_269⟩, ⟨bq0 BK269⟩, ⟨bbw3 HB GE265 GE266 GE269⟩⟩
    ·rw [if_neg c19] at H
     have c19b0 : (a0_1 == 0 && ((wrap64 (1 - a0_0)) == 0)) = false := by simpa using c19
     (try (have c19b1 : decide (a0_1 = 0 && ((wrap64 (1 - a0_0)) == 0)) = false := by simpa using c19))
     (try (have c19b2 : (a0_1 == 0 && ((wrap64 (1 - a0_0)) == 0)) = false := by simpa using c19))
     (try (have c19b3 : ¬ (a0_1 = 0 && ((wrap64 (1 - a0_0)) == 0)) := by simpa using c19))
     clear c19
     (first | rw [c19b0] | (simp only [i64_w, i32_w]; rw [c19b0]) | skip)
     have H' := Aside0.mk H
     clear H
     go_wp2
     go_meet
     case rel => exact ⟨_, (a0_1), (wrap64 (1 - a0_0)), H', ⟨by first | omega | exact Nat.le_refl _⟩, ⟨bq1 BK265 NB265_269⟩, ⟨bq1 BK266 NB266_269⟩, ⟨bq0 BK269⟩, ⟨bbw3 HB GE265 GE266 GE269⟩⟩
   case rest =>
    clear HC6
    try clear c1
    try clear c2
    try clear p2
    try clear c3
    try clear c5
    try clear p6
    try clear c9
    try clear c16
    try clear c17
    try clear c19
    try clear c19b0
    try clear c19b1
    try clear c19b2
    try clear c20
    try clear c21
    try clear c23
    try clear hcz10_0
    try clear hcz10_1
    try clear hcz10_2
    try clear hcz10_3
    try clear hcz12_0
    try clear hcz12_1
    try clear hcz12_2
    try clear hcz12_3
    try clear hcz14_0
    try clear hcz14_1
    try clear hcz14_2
    try clear hcz14_3
    try clear hcz18_0
    try clear hcz18_1
    try clear hcz22_0
    try clear hcz22_1
    try clear hcz22_2
    try clear hcz22_3
    try clear hcz24_0
    try clear hcz24_1
    try clear hfz10_0
    try clear hfz10_1
    try clear hfz10_2
    try clear hfz10_3
    try clear hfz12_0
    try clear hfz12_1
    try clear hfz12_2
    try clear hfz12_3
    try clear hfz14_0
    try clear hfz14_1
    try clear hfz14_2
    try clear hfz14_3
    try clear hfz18_0
    try clear hfz18_1
    try clear hfz22_0
    try clear hfz22_1
    try clear hfz22_2
    try clear hfz22_3
    try clear hfz24_0
    try clear hfz24_1
    obtain ⟨kq, x270000_5, x270001_5, HA, HJ5, BK265, BK266, BK269, HB⟩ := hcut
    cases kq with
    | zero => exact absurd HA.out (by simp [impl_AxisOf.j0])
    | succ kj5 =>
     have H := HA.out
     clear HA
     simp only [impl_AxisOf.j0] at H
     obtain ⟨t270, A25, H⟩ := ob H
     try dsimp only at H
     by_cases c26 : t270 = 0
     ·rw [if_pos c26] at H
      exact absurd H (by simp)
     ·rw [if_neg c26] at H
      have c26b0 : (t270 == 0) = false := beq_eq_false_iff_ne.mpr c26
      have c26b1 : (t270 != 0) = true := bne_iff_ne.mpr c26
      obtain ⟨t271, A27, H⟩ := ob H
      try dsimp only at H
      by_cases c28 : t271 < 0
      ·rw [if_pos c28] at H
       have c28b0 := decide_eq_true c28
       clear c28
       obtain ⟨⟨t272, t273⟩, A29, H⟩ := ob H
       try dsimp only at H
       obtain ⟨⟨t274, t275, t276⟩, A30, H⟩ := ob H
       try dsimp only at H
       simp only [Option.some.injEq, Prod.mk.injEq] at H
       obtain ⟨rfl, rfl, rfl⟩ := H
       have hnb31 := NB269_265.out
       have hnc31 := NB265_269.out
       have hnb32 := NB269_266.out
       have hnc32 := NB266_269.out
       obtain ⟨hcz33_0, hcz33_1, hfz33_0, hfz33_1⟩ := bz2 BK269
       try go_wp2_with (first | ((with_reducible refine gate_callee (f := 54) rfl ?_); refine gl 33 Tryz.func54 #[.int .i64 x270000_5, .int .i64 x270001_5] ?_; (with_reducible refine (impl_gcd.calls _ _ _ _ _ A25.out).mono ?_); rintro e w34 ⟨rfl, hb⟩; refine ⟨_, rfl, ?_⟩; replace BK265 := bB BK265 hb; replace BK266 := bB BK266 hb; replace BK269 := bB BK269 hb; replace HB := bS3 HB GE265 GE266 GE269 hb; (try clear hb)))
       replace BK265 := asd (blk_drew BK265.out)
       replace BK266 := asd (blk_drew BK266.out)
       replace BK269 := asd (blk_drew BK269.out)
       replace HB := asd (below_drew1 HB.out)
       refine start_ (n := 10) (S := fun w' => w'.cell? ⟨gb269, 0, none⟩ = some (.int .i64 x270000_5) ∧ w'.cell? ⟨gb269, 1, none⟩ = some (.int .i64 x270001_5)) (ds := [9]) (bT 10 0) (by kernel_rfl) rfl rfl ⟨bcl BK269 0, bcl BK269 1⟩ (fun hHeld => ?_); refine with_tabW impl_AxisOf.tab9 impl_AxisOf.bits9 (fun HT_ HW_ => ?_)
       generalize w34.drew = w35 at BK265 BK266 BK269 HB hHeld ⊢
       refine pu 0 (some 34) (bT 10 1) HT_ ?_
       refine pu 2 (some 36) (bs 10 5) HT_ ?_
       refine pu 4 (some 38) (bs 10 21) HT_ ?_
       refine pu 6 (some 40) (bs 10 85) HT_ ?_
       refine ta 1 (some 35) (bs 10 87) HT_ HW_ hHeld ?_
       refine pu 3 (some 37) (bs 10 95) HT_ ?_
       refine ta 5 (some 39) (bT 10 7) HT_ HW_ hHeld ?_
       refine pu 7 (some 41) (bT 10 8) HT_ ?_
       refine pu 8 (some 42) (bT 10 9) HT_ ?_
       refine last_ (i := 9) (N := none) (bT 10 10) rfl rfl (one_of HT_.out (by kernel_rfl)) (by decide) (fun K hK => ?_)
       have hs36 : w35.cell? ⟨gb269, 0, none⟩ = some (.int .i64 x270000_5) := bcl BK269 0
       have hfs36 := blk_frozen BK269.out 0
       have hns36_0 := NB265_269.out
       have hns36_1 := NB266_269.out
       have hms36_0 := NB269_265.out
       have hms36_1 := NB269_266.out
       have hs37 : w35.cell? ⟨gb269, 1, none⟩ = some (.int .i64 x270001_5) := bcl BK269 1
       have hfs37 := blk_frozen BK269.out 1
       have hns37_0 := NB265_269.out
       have hns37_1 := NB266_269.out
       have hms37_0 := NB269_265.out
       have hms37_1 := NB269_266.out
       refine skip_ (w1 := ?_) (by rfl) rfl ?_ ?_
       rotate_left
       ·go_simp
        rfl
       refine hK.out _ _ ?_
       clear hK K
       refine done_ (done_of HT_.out (by kernel_rfl)) ?_
       obtain ⟨hcz38_0, hcz38_1, hfz38_0, hfz38_1⟩ := bz2 BK269
       try go_wp2_with (first | ((with_reducible refine gate_callee (f := 55) rfl ?_); refine gl 45 Tryz.func55 #[.agg #[.int .i64 (wrap64 (Int.tdiv x270000_5 t270)), .int .i64 (wrap64 (Int.tdiv x270001_5 t270))], .agg #[.int .i64 0, .int .i64 0]] ?_; (with_reducible refine (impl_compareVecs.calls _ _ _ _ _ _ _ A27.out).mono ?_); rintro e w39 ⟨rfl, hb⟩; refine ⟨_, rfl, ?_⟩; replace BK265 := asd (blk_below (g := gb265) (o := .cells #[.int .i64 a0_0, .int .i64 a0_1, .int .i64 a0_2, .int .i64 a0_3] 25 (0, 0)) (bq1 BK265 NB265_269) hb); replace BK266 := asd (blk_below (g := gb266) (o := .cells #[.int .i64 0, .int .i64 0] 27 (0, 0)) (bq1 BK266 NB266_269) hb); replace BK269 := asd (blk_below (g := gb269) (o := .cells #[.int .i64 (wrap64 (Int.tdiv x270000_5 t270)), .int .i64 (wrap64 (Int.tdiv x270001_5 t270))] 27 (0, 0)) (bq0 BK269) hb); replace HB := bS3 HB GE265 GE266 GE269 hb; (try clear hb); obtain ⟨hcz40_0, hcz40_1, hfz40_0, hfz40_1⟩ := bz2 BK269) | ((with_reducible refine gate_callee (f := 56) rfl ?_); refine gl 48 Tryz.func56 #[.agg #[.int .i64 (wrap64 (Int.tdiv x270000_5 t270)), .int .i64 (wrap64 (Int.tdiv x270001_5 t270))], .int .i64 (-1)] ?_; (with_reducible refine (impl_Vec_times.calls _ _ _ _ _ _ A29.out).mono ?_); rintro e w41 ⟨rfl, hb⟩; refine ⟨_, rfl, ?_⟩; replace BK265 := bB BK265 hb; replace BK266 := bB BK266 hb; replace BK269 := bB BK269 hb; replace HB := bS3 HB GE265 GE266 GE269 hb; (try clear hb); obtain ⟨hcz42_0, hcz42_1, hfz42_0, hfz42_1⟩ := bz2 BK269) | ((with_reducible refine gate_callee (f := 57) rfl ?_); refine gl 50 Tryz.func57 #[.agg #[.int .i64 t272, .int .i64 t273]] ?_; (with_reducible refine (impl_limited.calls _ _ _ _ _ _ A30.out).mono ?_); rintro e w43 ⟨rfl, hb⟩; refine ⟨_, rfl, ?_⟩; replace BK265 := asd (blk_below (g := gb265) (o := .cells #[.int .i64 a0_0, .int .i64 a0_1, .int .i64 a0_2, .int .i64 a0_3] 25 (0, 0)) (bq1 BK265 NB265_269) hb); replace BK266 := asd (blk_below (g := gb266) (o := .cells #[.int .i64 0, .int .i64 0] 27 (0, 0)) (bq1 BK266 NB266_269) hb); replace BK269 := asd (blk_below (g := gb269) (o := .cells #[.int .i64 t272, .int .i64 t273] 27 (0, 0)) (bq0 BK269) hb); replace HB := bS3 HB GE265 GE266 GE269 hb; (try clear hb); have hnb44 := NB266_265.out; have hnc44 := NB265_266.out; obtain ⟨hcz45_0, hcz45_1, hfz45_0, hfz45_1⟩ := bz2 BK266))
       refine bodyPost_ret (results_ct rfl _ _ gb266 27 #[.int .i64 t274, .int .i64 t275] (0, 0) _ rfl (bq0 BK266) Tryz.underlying27 rfl (by kernel_rfl)) rfl ?_
       exact er (bbw3 HB GE265 GE266 GE269)
      ·rw [if_neg c28] at H
       have c28b0 := decide_eq_false c28
       clear c28
       obtain ⟨⟨t277, t278, t279⟩, A46, H⟩ := ob H
       try dsimp only at H
       simp only [Option.some.injEq, Prod.mk.injEq] at H
       obtain ⟨rfl, rfl, rfl⟩ := H
       have hnb47 := NB269_265.out
       have hnc47 := NB265_269.out
       have hnb48 := NB269_266.out
       have hnc48 := NB266_269.out
       obtain ⟨hcz49_0, hcz49_1, hfz49_0, hfz49_1⟩ := bz2 BK269
       try go_wp2_with (first | ((with_reducible refine gate_callee (f := 54) rfl ?_); refine gl 33 Tryz.func54 #[.int .i64 x270000_5, .int .i64 x270001_5] ?_; (with_reducible refine (impl_gcd.calls _ _ _ _ _ A25.out).mono ?_); rintro e w50 ⟨rfl, hb⟩; refine ⟨_, rfl, ?_⟩; replace BK265 := bB BK265 hb; replace BK266 := bB BK266 hb; replace BK269 := bB BK269 hb; replace HB := bS3 HB GE265 GE266 GE269 hb; (try clear hb)))
       replace BK265 := asd (blk_drew BK265.out)
       replace BK266 := asd (blk_drew BK266.out)
       replace BK269 := asd (blk_drew BK269.out)
       replace HB := asd (below_drew1 HB.out)
       refine start_ (n := 10) (S := fun w' => w'.cell? ⟨gb269, 0, none⟩ = some (.int .i64 x270000_5) ∧ w'.cell? ⟨gb269, 1, none⟩ = some (.int .i64 x270001_5)) (ds := [9]) (bT 10 0) (by kernel_rfl) rfl rfl ⟨bcl BK269 0, bcl BK269 1⟩ (fun hHeld => ?_); refine with_tabW impl_AxisOf.tab9 impl_AxisOf.bits9 (fun HT_ HW_ => ?_)
       generalize w50.drew = w51 at BK265 BK266 BK269 HB hHeld ⊢
       refine pu 0 (some 34) (bT 10 1) HT_ ?_
       refine pu 2 (some 36) (bs 10 5) HT_ ?_
       refine pu 4 (some 38) (bs 10 21) HT_ ?_
       refine pu 6 (some 40) (bs 10 85) HT_ ?_
       refine ta 1 (some 35) (bs 10 87) HT_ HW_ hHeld ?_
       refine pu 3 (some 37) (bs 10 95) HT_ ?_
       refine ta 5 (some 39) (bT 10 7) HT_ HW_ hHeld ?_
       refine pu 7 (some 41) (bT 10 8) HT_ ?_
       refine pu 8 (some 42) (bT 10 9) HT_ ?_
       refine last_ (i := 9) (N := none) (bT 10 10) rfl rfl (one_of HT_.out (by kernel_rfl)) (by decide) (fun K hK => ?_)
       have hs52 : w51.cell? ⟨gb269, 0, none⟩ = some (.int .i64 x270000_5) := bcl BK269 0
       have hfs52 := blk_frozen BK269.out 0
       have hns52_0 := NB265_269.out
       have hns52_1 := NB266_269.out
       have hms52_0 := NB269_265.out
       have hms52_1 := NB269_266.out
       have hs53 : w51.cell? ⟨gb269, 1, none⟩ = some (.int .i64 x270001_5) := bcl BK269 1
       have hfs53 := blk_frozen BK269.out 1
       have hns53_0 := NB265_269.out
       have hns53_1 := NB266_269.out
       have hms53_0 := NB269_265.out
       have hms53_1 := NB269_266.out
       refine skip_ (w1 := ?_) (by rfl) rfl ?_ ?_
       rotate_left
       ·go_simp
        rfl
       refine hK.out _ _ ?_
       clear hK K
       refine done_ (done_of HT_.out (by kernel_rfl)) ?_
       obtain ⟨hcz54_0, hcz54_1, hfz54_0, hfz54_1⟩ := bz2 BK269
       try go_wp2_with (first | ((with_reducible refine gate_callee (f := 55) rfl ?_); refine gl 45 Tryz.func55 #[.agg #[.int .i64 (wrap64 (Int.tdiv x270000_5 t270)), .int .i64 (wrap64 (Int.tdiv x270001_5 t270))], .agg #[.int .i64 0, .int .i64 0]] ?_; (with_reducible refine (impl_compareVecs.calls _ _ _ _ _ _ _ A27.out).mono ?_); rintro e w55 ⟨rfl, hb⟩; refine ⟨_, rfl, ?_⟩; replace BK265 := asd (blk_below (g := gb265) (o := .cells #[.int .i64 a0_0, .int .i64 a0_1, .int .i64 a0_2, .int .i64 a0_3] 25 (0, 0)) (bq1 BK265 NB265_269) hb); replace BK266 := asd (blk_below (g := gb266) (o := .cells #[.int .i64 0, .int .i64 0] 27 (0, 0)) (bq1 BK266 NB266_269) hb); replace BK269 := asd (blk_below (g := gb269) (o := .cells #[.int .i64 (wrap64 (Int.tdiv x270000_5 t270)), .int .i64 (wrap64 (Int.tdiv x270001_5 t270))] 27 (0, 0)) (bq0 BK269) hb); replace HB := bS3 HB GE265 GE266 GE269 hb; (try clear hb); obtain ⟨hcz56_0, hcz56_1, hfz56_0, hfz56_1⟩ := bz2 BK269) | ((with_reducible refine gate_callee (f := 57) rfl ?_); refine gl 50 Tryz.func57 #[.agg #[.int .i64 (wrap64 (Int.tdiv x270000_5 t270)), .int .i64 (wrap64 (Int.tdiv x270001_5 t270))]] ?_; (with_reducible refine (impl_limited.calls _ _ _ _ _ _ A46.out).mono ?_); rintro e w57 ⟨rfl, hb⟩; refine ⟨_, rfl, ?_⟩; replace BK265 := bB BK265 hb; replace BK266 := bB BK266 hb; replace BK269 := bB BK269 hb; replace HB := bS3 HB GE265 GE266 GE269 hb; (try clear hb); have hnb58 := NB266_265.out; have hnc58 := NB265_266.out; obtain ⟨hcz59_0, hcz59_1, hfz59_0, hfz59_1⟩ := bz2 BK266))
       refine bodyPost_ret (results_ct rfl _ _ gb266 27 #[.int .i64 t277, .int .i64 t278] (0, 0) _ rfl (bq0 BK266) Tryz.underlying27 rfl (by kernel_rfl)) rfl ?_
       exact er (bbw3 HB GE265 GE266 GE269)
  ·replace c5 := Bool.eq_false_iff.mpr c5
   subst c5
   replace H := ifF H
   simp only [Option.some.injEq, Prod.mk.injEq] at H
   obtain ⟨rfl, rfl, rfl⟩ := H
   go_enter Tryz.func16, Tryz.ntmps16
   go_wp2_with (first | ((with_reducible refine gd 1 rfl ?_); refine bx #[.int .i64 a0_0, .int .i64 a0_1, .int .i64 a0_2, .int .i64 a0_3] 25 ?_; intro gb265 hg w60 BK265 hb; have GE265 := ngw0 hg HB; replace HB := bS0 HB hb; clear hb hg) | ((with_reducible refine gd 2 rfl ?_); refine bx #[.int .i64 0, .int .i64 0] 27 ?_; intro gb266 hg w61 BK266 hb; have GE266 := ngw1 hg HB GE265; replace HB := bS1 HB GE265 hb; have NB265_266 := nlt hg BK265; have NB266_265 := nsy (nlt hg BK265); replace BK265 := bB BK265 hb; clear hb hg; have hnb62 := NB265_266.out; have hnc62 := NB266_265.out; obtain ⟨hcz63_0, hcz63_1, hcz63_2, hcz63_3, hfz63_0, hfz63_1, hfz63_2, hfz63_3⟩ := bz4 BK265) | ((with_reducible refine gate_callee (f := 52) rfl ?_); refine gl 7 Tryz.func52 #[.agg #[.int .i64 a0_0, .int .i64 a0_1, .int .i64 a0_2, .int .i64 a0_3]] ?_; (with_reducible refine (impl_IsMat.calls _ _ _ _ _ _ A2.out).mono ?_); rintro e w64 ⟨rfl, hb⟩; refine ⟨_, rfl, ?_⟩; replace BK265 := bB BK265 hb; replace BK266 := bB BK266 hb; replace HB := bS2 HB GE265 GE266 hb; (try clear hb); obtain ⟨hcz65_0, hcz65_1, hcz65_2, hcz65_3, hfz65_0, hfz65_1, hfz65_2, hfz65_3⟩ := bz4 BK265) | ((with_reducible refine gate_callee (f := 53) rfl ?_); refine gl 11 Tryz.func53 #[.agg #[.int .i64 a0_0, .int .i64 a0_1, .int .i64 a0_2, .int .i64 a0_3]] ?_; (with_reducible refine (impl_Mat_isReflection.calls _ _ _ _ _ _ _ A4.out).mono ?_); rintro e w66 ⟨rfl, hb⟩; refine ⟨_, rfl, ?_⟩; replace BK265 := bB BK265 hb; replace BK266 := bB BK266 hb; replace HB := bS2 HB GE265 GE266 hb; (try clear hb); obtain ⟨hcz67_0, hcz67_1, hfz67_0, hfz67_1⟩ := bz2 BK266))
   refine bodyPost_ret (results_ct rfl _ _ gb266 27 #[.int .i64 0, .int .i64 0] (0, 0) _ rfl (bq0 BK266) Tryz.underlying27 rfl (by kernel_rfl)) rfl ?_
   exact er (bbw2 HB GE265 GE266)
 ·replace c3 := Bool.eq_false_iff.mpr c3
  subst c3
  replace H := ifF H
  simp only [Option.some.injEq, Prod.mk.injEq] at H
  obtain ⟨rfl, rfl, rfl⟩ := H
  go_enter Tryz.func16, Tryz.ntmps16
  go_wp2_with (first | ((with_reducible refine gd 1 rfl ?_); refine bx #[.int .i64 a0_0, .int .i64 a0_1, .int .i64 a0_2, .int .i64 a0_3] 25 ?_; intro gb265 hg w68 BK265 hb; have GE265 := ngw0 hg HB; replace HB := bS0 HB hb; clear hb hg) | ((with_reducible refine gd 2 rfl ?_); refine bx #[.int .i64 0, .int .i64 0] 27 ?_; intro gb266 hg w69 BK266 hb; have GE266 := ngw1 hg HB GE265; replace HB := bS1 HB GE265 hb; have NB265_266 := nlt hg BK265; have NB266_265 := nsy (nlt hg BK265); replace BK265 := bB BK265 hb; clear hb hg; have hnb70 := NB265_266.out; have hnc70 := NB266_265.out; obtain ⟨hcz71_0, hcz71_1, hcz71_2, hcz71_3, hfz71_0, hfz71_1, hfz71_2, hfz71_3⟩ := bz4 BK265) | ((with_reducible refine gate_callee (f := 52) rfl ?_); refine gl 7 Tryz.func52 #[.agg #[.int .i64 a0_0, .int .i64 a0_1, .int .i64 a0_2, .int .i64 a0_3]] ?_; (with_reducible refine (impl_IsMat.calls _ _ _ _ _ _ A2.out).mono ?_); rintro e w72 ⟨rfl, hb⟩; refine ⟨_, rfl, ?_⟩; replace BK265 := bB BK265 hb; replace BK266 := bB BK266 hb; replace HB := bS2 HB GE265 GE266 hb; (try clear hb); obtain ⟨hcz73_0, hcz73_1, hfz73_0, hfz73_1⟩ := bz2 BK266))
  refine bodyPost_ret (results_ct rfl _ _ gb266 27 #[.int .i64 0, .int .i64 0] (0, 0) _ rfl (bq0 BK266) Tryz.underlying27 rfl (by kernel_rfl)) rfl ?_
  exact er (bbw2 HB GE265 GE266)

/-! ### spec_l01In: function 92 -/
def spec_l01In.f (a0 : Int) (a1 : Int) (a2 : Int) : Option (Bool) := if a0 ≥ a1 then (some (decide (a0 ≤ a2))) else (some false)
set_option maxHeartbeats 8000000 in
set_option maxRecDepth 100000 in
theorem spec_l01In.calls (a0 : Int) (a1 : Int) (a2 : Int) (r : Bool) (w : World) (h : spec_l01In.f a0 a1 a2 = some r) :
  Calls Tryz.prog 92 #[.int .i64 a0, .int .i64 a1, .int .i64 a2] w fun e w' => e = .returned (.bool r) ∧ Drawn0 w w' := by
 have H : (if a0 ≥ a1 then (some (decide (a0 ≤ a2))) else (some false)) = some r := h
 clear h
 by_cases c4 : a0 ≥ a1
 ·rw [if_pos c4] at H
  have c4b0 : decide (a1 ≤ a0) = true := decide_eq_true c4
  clear c4
  obtain rfl := Option.some.inj H
  go_enter Tryz.func92, Tryz.ntmps92
  go_wp2
  go_ret
  exact ⟨by first | rfl | (simp; done) | (simp [*]; done), by repeat (first | exact Drawn0.refl _ | apply Drawn0.step)⟩
 ·rw [if_neg c4] at H
  have c4b0 : decide (a1 ≤ a0) = false := decide_eq_false c4
  clear c4
  obtain rfl := Option.some.inj H
  go_enter Tryz.func92, Tryz.ntmps92
  go_wp2
  go_ret
  exact ⟨by first | rfl | (simp; done) | (simp [*]; done), by repeat (first | exact Drawn0.refl _ | apply Drawn0.step)⟩
/-! ### spec_IsVec: function 41 -/
def spec_IsVec.f (a0_0 : Int) (a0_1 : Int) : Option (Bool) := (spec_l01In.f a0_0 (-1000) 1000).bind fun t281 => (if t281 = true then ((spec_l01In.f a0_1 (-1000) 1000).bind fun t282 => (some t282)) else (some false))
set_option maxHeartbeats 8000000 in
set_option maxRecDepth 100000 in
theorem spec_IsVec.calls (a0_0 : Int) (a0_1 : Int) (r : Bool) (w : World) (h : spec_IsVec.f a0_0 a0_1 = some r) :
  Calls Tryz.prog 41 #[.agg #[.int .i64 a0_0, .int .i64 a0_1]] w fun e w' => e = .returned (.bool r) ∧ Below w.heap.size w w' := by
 have hu27 := Tryz.underlying27
 have HB := asd (Below.refl w.heap.size w)
 have H : ((spec_l01In.f a0_0 (-1000) 1000).bind fun t281 => (if t281 = true then ((spec_l01In.f a0_1 (-1000) 1000).bind fun t282 => (some t282)) else (some false))) = some r := h
 clear h
 obtain ⟨t281, A2, H⟩ := ob H
 try dsimp only at H
 by_cases c3 : t281 = true
 subst c3
 replace H := ifT H
 obtain ⟨t282, A4, H⟩ := ob H
 try dsimp only at H
 obtain rfl := Option.some.inj H
 rotate_left
 replace c3 := Bool.eq_false_iff.mpr c3
 subst c3
 replace H := ifF H
 obtain rfl := Option.some.inj H
 rotate_left
 all_goals
  go_enter Tryz.func41, Tryz.ntmps41
  go_wp2_with (first | ((with_reducible refine gd 1 rfl ?_); refine bx #[.int .i64 a0_0, .int .i64 a0_1] 27 ?_; intro gb280 hg w5 BK280 hb; have GE280 := ngw0 hg HB; replace HB := bS0 HB hb; clear hb hg; obtain ⟨hcz6_0, hcz6_1, hfz6_0, hfz6_1⟩ := bz2 BK280) | ((with_reducible refine gate_callee (f := 92) rfl ?_); refine gl 5 Tryz.func92 #[.int .i64 a0_0, .int .i64 (-1000), .int .i64 1000] ?_; (with_reducible refine (spec_l01In.calls _ _ _ _ _ A2.out).mono ?_); rintro e w' ⟨rfl, ⟨nd, rfl⟩⟩; refine ⟨_, rfl, ?_⟩) | (go_at_call 92; (with_reducible refine (spec_l01In.calls _ _ _ _ _ A4.out).mono ?_); rintro e w' ⟨rfl, ⟨nd, rfl⟩⟩))
  go_ret
  exact er (bbw1 HB GE280)
/-! ### spec_l02Small: function 99 -/
def spec_l02Small.f (a0_0 : Int) (a0_1 : Int) (a0_2 : Int) (a0_3 : Int) : Option (Bool) := (spec_IsVec.f a0_0 a0_1).bind fun t284 => (if t284 = true then ((spec_IsVec.f a0_2 a0_3).bind fun t285 => (some t285)) else (some false))
set_option maxHeartbeats 8000000 in
set_option maxRecDepth 100000 in
theorem spec_l02Small.calls (a0_0 : Int) (a0_1 : Int) (a0_2 : Int) (a0_3 : Int) (r : Bool) (w : World) (h : spec_l02Small.f a0_0 a0_1 a0_2 a0_3 = some r) :
  Calls Tryz.prog 99 #[.agg #[.int .i64 a0_0, .int .i64 a0_1, .int .i64 a0_2, .int .i64 a0_3]] w fun e w' => e = .returned (.bool r) ∧ Below w.heap.size w w' := by
 have hu25 := Tryz.underlying25
 have hu27 := Tryz.underlying27
 have HB := asd (Below.refl w.heap.size w)
 have H : ((spec_IsVec.f a0_0 a0_1).bind fun t284 => (if t284 = true then ((spec_IsVec.f a0_2 a0_3).bind fun t285 => (some t285)) else (some false))) = some r := h
 clear h
 obtain ⟨t284, A2, H⟩ := ob H
 try dsimp only at H
 by_cases c3 : t284 = true
 ·subst c3
  replace H := ifT H
  obtain ⟨t285, A4, H⟩ := ob H
  try dsimp only at H
  obtain rfl := Option.some.inj H
  go_enter Tryz.func99, Tryz.ntmps99
  go_wp2_with (first | ((with_reducible refine gd 1 rfl ?_); refine bx #[.int .i64 a0_0, .int .i64 a0_1, .int .i64 a0_2, .int .i64 a0_3] 25 ?_; intro gb283 hg w5 BK283 hb; have GE283 := ngw0 hg HB; replace HB := bS0 HB hb; clear hb hg; obtain ⟨hcz6_0, hcz6_1, hcz6_2, hcz6_3, hfz6_0, hfz6_1, hfz6_2, hfz6_3⟩ := bz4 BK283) | ((with_reducible refine gate_callee (f := 41) rfl ?_); refine gl 8 Tryz.func41 #[.agg #[.int .i64 a0_0, .int .i64 a0_1]] ?_; (with_reducible refine (spec_IsVec.calls _ _ _ _ A2.out).mono ?_); rintro e w7 ⟨rfl, hb⟩; refine ⟨_, rfl, ?_⟩; replace BK283 := bB BK283 hb; replace HB := bS1 HB GE283 hb; (try clear hb); obtain ⟨hcz8_0, hcz8_1, hcz8_2, hcz8_3, hfz8_0, hfz8_1, hfz8_2, hfz8_3⟩ := bz4 BK283) | (go_at_call 41; (with_reducible refine (spec_IsVec.calls _ _ _ _ A4.out).mono ?_); rintro e w9 ⟨rfl, hb⟩; replace BK283 := bB BK283 hb; replace HB := bS1 HB GE283 hb; (try clear hb)))
  go_ret
  exact er (bbw1 HB GE283)
 ·replace c3 := Bool.eq_false_iff.mpr c3
  subst c3
  replace H := ifF H
  obtain rfl := Option.some.inj H
  go_enter Tryz.func99, Tryz.ntmps99
  go_wp2_with (first | ((with_reducible refine gd 1 rfl ?_); refine bx #[.int .i64 a0_0, .int .i64 a0_1, .int .i64 a0_2, .int .i64 a0_3] 25 ?_; intro gb283 hg w10 BK283 hb; have GE283 := ngw0 hg HB; replace HB := bS0 HB hb; clear hb hg; obtain ⟨hcz11_0, hcz11_1, hcz11_2, hcz11_3, hfz11_0, hfz11_1, hfz11_2, hfz11_3⟩ := bz4 BK283) | ((with_reducible refine gate_callee (f := 41) rfl ?_); refine gl 8 Tryz.func41 #[.agg #[.int .i64 a0_0, .int .i64 a0_1]] ?_; (with_reducible refine (spec_IsVec.calls _ _ _ _ A2.out).mono ?_); rintro e w12 ⟨rfl, hb⟩; refine ⟨_, rfl, ?_⟩; replace BK283 := bB BK283 hb; replace HB := bS1 HB GE283 hb; (try clear hb)))
  go_ret
  exact er (bbw1 HB GE283)

end Go.Proofs.YtnblfcibgokccaaGreatDoor.PA
