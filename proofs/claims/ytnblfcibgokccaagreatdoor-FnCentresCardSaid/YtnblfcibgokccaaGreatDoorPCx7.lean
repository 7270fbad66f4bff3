/- Walks written by program: each Go function that the law reaches comes to the plain function beside it. -/
import Derived.Test.YtnblfcibgokccaaGreatDoorPCx0
import Derived.Test.YtnblfcibgokccaaGreatDoorPCx1
import Derived.Test.YtnblfcibgokccaaGreatDoorPCx6
namespace Go.Proofs.YtnblfcibgokccaaGreatDoor.PC
open Go.RowKit Go.Proofs.YtnblfcibgokccaaGreatDoorW.PrintWords Go.Proofs.YtnblfcibgokccaaGreatDoorW.PrintLast Go.Proofs.YtnblfcibgokccaaGreatDoorW.PrintMore
attribute [local go_sem] max2_int min2_int max_two min_two max_three min_three max_four min_four   -- for this text's walks alone
set_option linter.unusedVariables false
set_option linter.unusedSimpArgs false

attribute [local go_sem high] eqA25
/-! ### impl_Mat_order: function 97 -/
mutual
def impl_Mat_order.j0 : Nat → Int → Bool → Int → Int → Int → Int → Option (Int)
 | 0, _, _, _, _, _, _ => none
 | k + 1, x3, x13, x328000, x328001, x328002, x328003 => if x13 = true then (impl_Mat_order.j1 k x3 x13 x328000 x328001 x328002 x328003) else (impl_Mat_order.j1 k x3 (x328000 == (-1) && (x328001 == 0 && (x328002 == 0 && (x328003 == (-1))))) x328000 x328001 x328002 x328003)
def impl_Mat_order.j1 : Nat → Int → Bool → Int → Int → Int → Int → Option (Int)
 | 0, _, _, _, _, _, _ => none
 | k + 1, x3, x13, x328000, x328001, x328002, x328003 => if x13 = true then (some 2) else ((impl_Mat_det.f x328000 x328001 x328002 x328003).bind fun t333 => (if t333 = 1 then (impl_Mat_order.j2 k x3 (x3 == (-1)) x328000 x328001 x328002 x328003) else (impl_Mat_order.j2 k x3 false x328000 x328001 x328002 x328003)))
def impl_Mat_order.j2 : Nat → Int → Bool → Int → Int → Int → Int → Option (Int)
 | 0, _, _, _, _, _, _ => none
 | k + 1, x3, x24, x328000, x328001, x328002, x328003 => if x24 = true then (some 3) else ((impl_Mat_det.f x328000 x328001 x328002 x328003).bind fun t334 => (if t334 = 1 then (impl_Mat_order.j3 k x3 (x3 == 0) x328000 x328001 x328002 x328003) else (impl_Mat_order.j3 k x3 false x328000 x328001 x328002 x328003)))
def impl_Mat_order.j3 : Nat → Int → Bool → Int → Int → Int → Int → Option (Int)
 | 0, _, _, _, _, _, _ => none
 | k + 1, x3, x32, x328000, x328001, x328002, x328003 => if x32 = true then (some 4) else ((impl_Mat_det.f x328000 x328001 x328002 x328003).bind fun t335 => (if t335 = 1 then (if x3 = 1 then (some 6) else (some 0)) else (some 0)))
end
def impl_Mat_order.f (k : Nat) (a0_0 : Int) (a0_1 : Int) (a0_2 : Int) (a0_3 : Int) : Option (Int) := (impl_unit.f).bind fun bt328 => (if (a0_0 == bt328.1 && (a0_1 == bt328.2.1 && (a0_2 == bt328.2.2.1 && (a0_3 == bt328.2.2.2)))) = true then (some 1) else ((impl_Mat_det.f a0_0 a0_1 a0_2 a0_3).bind fun t332 => (if t332 = (-1) then (impl_Mat_order.j0 k (wrap64 (a0_0 + a0_3)) ((wrap64 (a0_0 + a0_3)) == 0) a0_0 a0_1 a0_2 a0_3) else (impl_Mat_order.j0 k (wrap64 (a0_0 + a0_3)) false a0_0 a0_1 a0_2 a0_3))))
set_option maxHeartbeats 8000000 in
set_option maxRecDepth 100000 in
theorem impl_Mat_order.calls (k : Nat) (a0_0 : Int) (a0_1 : Int) (a0_2 : Int) (a0_3 : Int) (r : Int) (w : World) (h : impl_Mat_order.f k a0_0 a0_1 a0_2 a0_3 = some r) :
  Calls Tryz.prog 97 #[.agg #[.int .i64 a0_0, .int .i64 a0_1, .int .i64 a0_2, .int .i64 a0_3]] w fun e w' => e = .returned (.int .i64 r) ∧ Below w.heap.size w w' := by
 have hu25 := Tryz.underlying25
 have HB := asd (Below.refl w.heap.size w)
 have H : ((impl_unit.f).bind fun bt328 => (if (a0_0 == bt328.1 && (a0_1 == bt328.2.1 && (a0_2 == bt328.2.2.1 && (a0_3 == bt328.2.2.2)))) = true then (some 1) else ((impl_Mat_det.f a0_0 a0_1 a0_2 a0_3).bind fun t332 => (if t332 = (-1) then (impl_Mat_order.j0 k (wrap64 (a0_0 + a0_3)) ((wrap64 (a0_0 + a0_3)) == 0) a0_0 a0_1 a0_2 a0_3) else (impl_Mat_order.j0 k (wrap64 (a0_0 + a0_3)) false a0_0 a0_1 a0_2 a0_3))))) = some r := h
 clear h
 obtain ⟨⟨t328, t329, t330, t331⟩, A2, H⟩ := ob H
 try dsimp only at H
 by_cases c3 : (a0_0 == t328 && (a0_1 == t329 && (a0_2 == t330 && (a0_3 == t331)))) = true
 rw [if_pos c3] at H
 have c3b0 := c3
 (try (have c3b1 : decide (a0_0 = t328 && (a0_1 == t329 && (a0_2 == t330 && (a0_3 == t331)))) = true := by simpa using c3))
 (try (have c3b2 : (a0_0 == t328 && (a0_1 == t329 && (a0_2 == t330 && (a0_3 == t331)))) = true := by simpa using c3))
 clear c3
 obtain rfl := Option.some.inj H
 rotate_left
 rw [if_neg c3] at H
 have c3b0 : (a0_0 == t328 && (a0_1 == t329 && (a0_2 == t330 && (a0_3 == t331)))) = false := by simpa using c3
 (try (have c3b1 : decide (a0_0 = t328 && (a0_1 == t329 && (a0_2 == t330 && (a0_3 == t331)))) = false := by simpa using c3))
 (try (have c3b2 : (a0_0 == t328 && (a0_1 == t329 && (a0_2 == t330 && (a0_3 == t331)))) = false := by simpa using c3))
 (try (have c3b3 : ¬ (a0_0 = t328 && (a0_1 == t329 && (a0_2 == t330 && (a0_3 == t331)))) := by simpa using c3))
 clear c3
 rotate_left
 go_enter Tryz.func97, Tryz.ntmps97
 try go_wp2_with (first | ((with_reducible refine gd 1 rfl ?_); refine bx #[.int .i64 a0_0, .int .i64 a0_1, .int .i64 a0_2, .int .i64 a0_3] 25 ?_; intro gb327 hg w4 BK327 hb; have GE327 := ngw0 hg HB; replace HB := bS0 HB hb; clear hb hg; obtain ⟨hcz5_0, hcz5_1, hcz5_2, hcz5_3, hfz5_0, hfz5_1, hfz5_2, hfz5_3⟩ := bz4 BK327))
 rotate_left
 have HC8 := Aside0.mk H
 clear H
 go_enter Tryz.func97, Tryz.ntmps97
 try go_wp2_with (first | ((with_reducible refine gd 1 rfl ?_); refine bx #[.int .i64 a0_0, .int .i64 a0_1, .int .i64 a0_2, .int .i64 a0_3] 25 ?_; intro gb327 hg w4 BK327 hb; have GE327 := ngw0 hg HB; replace HB := bS0 HB hb; clear hb hg; obtain ⟨hcz10_0, hcz10_1, hcz10_2, hcz10_3, hfz10_0, hfz10_1, hfz10_2, hfz10_3⟩ := bz4 BK327))
 rotate_left
 all_goals
  replace BK327 := asd (blk_drew BK327.out)
  replace HB := asd (below_drew1 HB.out)
  refine sh 4 (eb4 BK327) (fun hHeld => ?_)
  generalize w4.drew = w6 at BK327 HB hHeld ⊢
  refine take_ (i := 0) (N := some 10) (v := ?_) (a' := ?_) (bT 4 1) rfl rfl (by kernel_rfl) (fun _ _ _ h => h) (Or.inl ⟨by rfl, ?_⟩) hHeld ?_ ?_
  rotate_left
  ·rintro w' ⟨s0, s1, s2, s3⟩
   go_simp
   with_reducible rfl
  rotate_left
  ·simp only [Act.put, sA, sB, sC, i64_w, i32_w]
   rfl
  refine one_ (i := 1) (N := some 11) (bT 4 2) rfl rfl (by kernel_rfl) (by decide) (fun K hK => ?_)
  refine gs Tryz.func85 #[] ?_
  with_reducible refine (impl_unit.calls _ _ _ _ _ A2.out).mono ?_
  rintro e w7 ⟨rfl, hb⟩
  refine ⟨_, rfl, ?_⟩
  replace BK327 := bB BK327 hb
  replace HB := bS1 HB GE327 hb
  (try clear hb)
  (try clear hb2)
  (try clear hk)
  (try clear hi)
  refine hK.out _ _ (eb4 BK327).out (fun hHeld => ?_)
  clear hK K
  refine norm_ (a' := ?_) ?_ ?_
  rotate_left
  ·show Act.put _ (some 11) _ = _
   simp only [Act.put, sA, sB, sC, i64_w, i32_w]
   rfl
  refine pure_ (i := 2) (N := some 12) (v := ?_) (a' := ?_) (bT 4 3) rfl rfl (by kernel_rfl) (fun _ _ _ h => h) (Or.inl ⟨by rfl, ?_⟩) ?_ ?_
  rotate_left
  ·intro w'
   go_simp
   with_reducible rfl
  rotate_left
  ·simp only [Act.put, sA, sB, sC, i64_w, i32_w]
   rfl
  refine pure_ (i := 3) (N := some 9) (v := ?_) (a' := ?_) (bT 4 4) rfl rfl (by kernel_rfl) (fun _ _ _ h => h) (Or.inl ⟨by rfl, ?_⟩) ?_ ?_
  rotate_left
  ·intro w'
   go_simp
   with_reducible rfl
  rotate_left
  ·simp only [Act.put, sA, sB, sC, i64_w, i32_w]
   rfl
  refine done_ (by kernel_rfl) ?_
 ·try go_wp2
  go_ret
  exact er (bbw1 HB GE327)
 ·go_upto_region 4 with (fail)
  go_cut [13] (fun v13 wc => ∃ (kq : Nat) (x13_7 : Bool), v13 = .bool x13_7 ∧ Aside0 (impl_Mat_order.j0 kq (wrap64 (a0_0 + a0_3)) x13_7 a0_0 a0_1 a0_2 a0_3 = some r) ∧ Aside0 (kq ≤ k) ∧ Aside0 (wc.heap[gb327]? = some (.cells #[.int .i64 a0_0, .int .i64 a0_1, .int .i64 a0_2, .int .i64 a0_3] 25 (0, 0))) ∧ Aside0 (Below w.heap.size w wc))
  case first =>
   have H := HC8.out
   clear HC8
   obtain ⟨t332, A13, H⟩ := ob H
   try dsimp only at H
   by_cases c14 : t332 = (-1)
   rw [if_pos c14] at H
   have c14b0 : (t332 == (-1)) = true := beq_iff_eq.mpr c14
   have c14b1 : (t332 != (-1)) = false := bne_eq_false_iff_eq.mpr c14
   clear c14
   rotate_left
   rw [if_neg c14] at H
   have c14b0 : (t332 == (-1)) = false := beq_eq_false_iff_ne.mpr c14
   have c14b1 : (t332 != (-1)) = true := bne_iff_ne.mpr c14
   rotate_left
   all_goals
    (first | rw [c14b0] | (simp only [i64_w, i32_w]; rw [c14b0]) | skip)
    have H' := Aside0.mk H
    clear H
   obtain ⟨hcz15_0, hcz15_1, hcz15_2, hcz15_3, hfz15_0, hfz15_1, hfz15_2, hfz15_3⟩ := bz4 BK327
   rotate_left
   obtain ⟨hcz17_0, hcz17_1, hcz17_2, hcz17_3, hfz17_0, hfz17_1, hfz17_2, hfz17_3⟩ := bz4 BK327
   rotate_left
   all_goals
    go_wp2_with (first | ((with_reducible refine gate_callee (f := 86) rfl ?_); refine gl 15 Tryz.func86 #[.agg #[.int .i64 a0_0, .int .i64 a0_1, .int .i64 a0_2, .int .i64 a0_3]] ?_; (with_reducible refine (impl_Mat_det.calls _ _ _ _ _ _ A13.out).mono ?_); rintro e w16 ⟨rfl, hb⟩; refine ⟨_, rfl, ?_⟩; replace BK327 := bB BK327 hb; replace HB := bS1 HB GE327 hb; (try clear hb)))
    go_meet
   ·case rel => exact ⟨_, (((wrap64 (a0_0 + a0_3)) == 0)), (by first | rfl | (simp; done) | (simp [*]; done)), H', ⟨by first | omega | exact Nat.le_refl _⟩, ⟨bkp BK327⟩, ⟨bbw1 HB GE327⟩⟩
   ·case rel => exact ⟨_, (false), (by first | rfl | (simp; done) | (simp [*]; done)), H', ⟨by first | omega | exact Nat.le_refl _⟩, ⟨bkp BK327⟩, ⟨bbw1 HB GE327⟩⟩
  case rest =>
   clear HC8
   try clear c1
   try clear p2
   try clear c3
   try clear c3b0
   try clear c3b1
   try clear c3b2
   try clear p6
   try clear c8
   try clear c9
   try clear c14
   try clear c14b0
   try clear c14b1
   try clear hcz10_0
   try clear hcz10_1
   try clear hcz10_2
   try clear hcz10_3
   try clear hcz15_0
   try clear hcz15_1
   try clear hcz15_2
   try clear hcz15_3
   try clear hcz17_0
   try clear hcz17_1
   try clear hcz17_2
   try clear hcz17_3
   try clear hcz5_0
   try clear hcz5_1
   try clear hcz5_2
   try clear hcz5_3
   try clear hfz10_0
   try clear hfz10_1
   try clear hfz10_2
   try clear hfz10_3
   try clear hfz15_0
   try clear hfz15_1
   try clear hfz15_2
   try clear hfz15_3
   try clear hfz17_0
   try clear hfz17_1
   try clear hfz17_2
   try clear hfz17_3
   try clear hfz5_0
   try clear hfz5_1
   try clear hfz5_2
   try clear hfz5_3
   obtain ⟨kq, x13_7, rfl, HA, HJ7, BK327, HB⟩ := hcut
   cases kq with
   | zero => exact absurd HA.out (by simp [impl_Mat_order.j0])
   | succ kj7 =>
    have H := HA.out
    clear HA
    simp only [impl_Mat_order.j0] at H
    have HC19 := Aside0.mk H
    clear H
    go_upto_if 13 with (fail)
    go_cut [13] (fun v13 wc => ∃ (kq : Nat) (x13_18 : Bool), v13 = .bool x13_18 ∧ Aside0 (impl_Mat_order.j1 kq (wrap64 (a0_0 + a0_3)) x13_18 a0_0 a0_1 a0_2 a0_3 = some r) ∧ Aside0 (kq ≤ kj7) ∧ Aside0 (wc.heap[gb327]? = some (.cells #[.int .i64 a0_0, .int .i64 a0_1, .int .i64 a0_2, .int .i64 a0_3] 25 (0, 0))) ∧ Aside0 (Below w.heap.size w wc))
    case first =>
     have H := HC19.out
     clear HC19
     by_cases c20 : x13_7 = true
     ·subst c20
      replace H := ifT H
      have H' := Aside0.mk H
      clear H
      go_wp2
      go_meet
      case rel => exact ⟨_, (true), (by first | rfl | (simp; done) | (simp [*]; done)), H', ⟨by have := HJ7.out; first | omega | exact Nat.le_refl _⟩, ⟨bkp BK327⟩, ⟨bbw1 HB GE327⟩⟩
     ·replace c20 := Bool.eq_false_iff.mpr c20
      subst c20
      replace H := ifF H
      have H' := Aside0.mk H
      clear H
      obtain ⟨hcz21_0, hcz21_1, hcz21_2, hcz21_3, hfz21_0, hfz21_1, hfz21_2, hfz21_3⟩ := bz4 BK327
      go_wp2
      go_meet
      case rel => exact ⟨_, ((a0_0 == (-1) && (a0_1 == 0 && (a0_2 == 0 && (a0_3 == (-1)))))), (by first | rfl | (simp; done) | (simp [*]; done)), H', ⟨by have := HJ7.out; first | omega | exact Nat.le_refl _⟩, ⟨bkp BK327⟩, ⟨bbw1 HB GE327⟩⟩
    case rest =>
     clear HC19
     try clear c1
     try clear c2
     try clear p2
     try clear c3
     try clear c3b0
     try clear c3b1
     try clear c3b2
     try clear p6
     try clear c8
     try clear c9
     try clear c14
     try clear c14b0
     try clear c14b1
     try clear c20
     try clear hcz10_0
     try clear hcz10_1
     try clear hcz10_2
     try clear hcz10_3
     try clear hcz15_0
     try clear hcz15_1
     try clear hcz15_2
     try clear hcz15_3
     try clear hcz17_0
     try clear hcz17_1
     try clear hcz17_2
     try clear hcz17_3
     try clear hcz21_0
     try clear hcz21_1
     try clear hcz21_2
     try clear hcz21_3
     try clear hcz5_0
     try clear hcz5_1
     try clear hcz5_2
     try clear hcz5_3
     try clear hfz10_0
     try clear hfz10_1
     try clear hfz10_2
     try clear hfz10_3
     try clear hfz15_0
     try clear hfz15_1
     try clear hfz15_2
     try clear hfz15_3
     try clear hfz17_0
     try clear hfz17_1
     try clear hfz17_2
     try clear hfz17_3
     try clear hfz21_0
     try clear hfz21_1
     try clear hfz21_2
     try clear hfz21_3
     try clear hfz5_0
     try clear hfz5_1
     try clear hfz5_2
     try clear hfz5_3
     try clear p2
     try clear p6
     obtain ⟨kq, x13_18, rfl, HA, HJ18, BK327, HB⟩ := hcut
     cases kq with
     | zero => exact absurd HA.out (by simp [impl_Mat_order.j1])
     | succ kj18 =>
      have H := HA.out
      clear HA
      simp only [impl_Mat_order.j1] at H
      by_cases c22 : x13_18 = true
      ·subst c22
       replace H := ifT H
       obtain rfl := Option.some.inj H
       go_wp2
       go_ret
       exact er (bbw1 HB GE327)
      ·replace c22 := Bool.eq_false_iff.mpr c22
       subst c22
       replace H := ifF H
       have HC23 := Aside0.mk H
       clear H
       go_upto_region 7 with (fail)
       go_cut [24] (fun v24 wc => ∃ (kq : Nat) (x24_22 : Bool), v24 = .bool x24_22 ∧ Aside0 (impl_Mat_order.j2 kq (wrap64 (a0_0 + a0_3)) x24_22 a0_0 a0_1 a0_2 a0_3 = some r) ∧ Aside0 (kq ≤ kj18) ∧ Aside0 (wc.heap[gb327]? = some (.cells #[.int .i64 a0_0, .int .i64 a0_1, .int .i64 a0_2, .int .i64 a0_3] 25 (0, 0))) ∧ Aside0 (Below w.heap.size w wc))
       case first =>
        have H := HC23.out
        clear HC23
        obtain ⟨t333, A24, H⟩ := ob H
        try dsimp only at H
        by_cases c25 : t333 = 1
        rw [if_pos c25] at H
        have c25b0 : (t333 == 1) = true := beq_iff_eq.mpr c25
        have c25b1 : (t333 != 1) = false := bne_eq_false_iff_eq.mpr c25
        clear c25
        rotate_left
        rw [if_neg c25] at H
        have c25b0 : (t333 == 1) = false := beq_eq_false_iff_ne.mpr c25
        have c25b1 : (t333 != 1) = true := bne_iff_ne.mpr c25
        rotate_left
        all_goals
         (first | rw [c25b0] | (simp only [i64_w, i32_w]; rw [c25b0]) | skip)
         have H' := Aside0.mk H
         clear H
        obtain ⟨hcz26_0, hcz26_1, hcz26_2, hcz26_3, hfz26_0, hfz26_1, hfz26_2, hfz26_3⟩ := bz4 BK327
        rotate_left
        obtain ⟨hcz28_0, hcz28_1, hcz28_2, hcz28_3, hfz28_0, hfz28_1, hfz28_2, hfz28_3⟩ := bz4 BK327
        rotate_left
        all_goals
         go_wp2_with (first | ((with_reducible refine gate_callee (f := 86) rfl ?_); refine gl 26 Tryz.func86 #[.agg #[.int .i64 a0_0, .int .i64 a0_1, .int .i64 a0_2, .int .i64 a0_3]] ?_; (with_reducible refine (impl_Mat_det.calls _ _ _ _ _ _ A24.out).mono ?_); rintro e w27 ⟨rfl, hb⟩; refine ⟨_, rfl, ?_⟩; replace BK327 := bB BK327 hb; replace HB := bS1 HB GE327 hb; (try clear hb)))
         go_meet
        ·case rel => exact ⟨_, (((wrap64 (a0_0 + a0_3)) == (-1))), (by first | rfl | (simp; done) | (simp [*]; done)), H', ⟨by have := HJ7.out; have := HJ18.out; first | omega | exact Nat.le_refl _⟩, ⟨bkp BK327⟩, ⟨bbw1 HB GE327⟩⟩
        ·case rel => exact ⟨_, (false), (by first | rfl | (simp; done) | (simp [*]; done)), H', ⟨by have := HJ7.out; have := HJ18.out; first | omega | exact Nat.le_refl _⟩, ⟨bkp BK327⟩, ⟨bbw1 HB GE327⟩⟩
       case rest =>
        clear HC23
        try clear c1
        try clear c2
        try clear p2
        try clear c3
        try clear c3b0
        try clear c3b1
        try clear c3b2
        try clear p6
        try clear c8
        try clear c9
        try clear c14
        try clear c14b0
        try clear c14b1
        try clear c20
        try clear c22
        try clear c25
        try clear c25b0
        try clear c25b1
        try clear hcz10_0
        try clear hcz10_1
        try clear hcz10_2
        try clear hcz10_3
        try clear hcz15_0
        try clear hcz15_1
        try clear hcz15_2
        try clear hcz15_3
        try clear hcz17_0
        try clear hcz17_1
        try clear hcz17_2
        try clear hcz17_3
        try clear hcz21_0
        try clear hcz21_1
        try clear hcz21_2
        try clear hcz21_3
        try clear hcz26_0
        try clear hcz26_1
        try clear hcz26_2
        try clear hcz26_3
        try clear hcz28_0
        try clear hcz28_1
        try clear hcz28_2
        try clear hcz28_3
        try clear hcz5_0
        try clear hcz5_1
        try clear hcz5_2
        try clear hcz5_3
        try clear hfz10_0
        try clear hfz10_1
        try clear hfz10_2
        try clear hfz10_3
        try clear hfz15_0
        try clear hfz15_1
        try clear hfz15_2
        try clear hfz15_3
        try clear hfz17_0
        try clear hfz17_1
        try clear hfz17_2
        try clear hfz17_3
        try clear hfz21_0
        try clear hfz21_1
        try clear hfz21_2
        try clear hfz21_3
        try clear hfz26_0
        try clear hfz26_1
        try clear hfz26_2
        try clear hfz26_3
        try clear hfz28_0
        try clear hfz28_1
        try clear hfz28_2
        try clear hfz28_3
        try clear hfz5_0
        try clear hfz5_1
        try clear hfz5_2
        try clear hfz5_3
        try clear p2
        try clear p6
        obtain ⟨kq, x24_22, rfl, HA, HJ22, BK327, HB⟩ := hcut
        cases kq with
        | zero => exact absurd HA.out (by simp [impl_Mat_order.j2])
        | succ kj22 =>
         have H := HA.out
         clear HA
         simp only [impl_Mat_order.j2] at H
         by_cases c30 : x24_22 = true
         ·subst c30
          replace H := ifT H
          obtain rfl := Option.some.inj H
          go_wp2
          go_ret
          exact er (bbw1 HB GE327)
         ·replace c30 := Bool.eq_false_iff.mpr c30
          subst c30
          replace H := ifF H
          have HC31 := Aside0.mk H
          clear H
          go_upto_region 9 with (fail)
          go_cut [32] (fun v32 wc => ∃ (kq : Nat) (x32_30 : Bool), v32 = .bool x32_30 ∧ Aside0 (impl_Mat_order.j3 kq (wrap64 (a0_0 + a0_3)) x32_30 a0_0 a0_1 a0_2 a0_3 = some r) ∧ Aside0 (kq ≤ kj22) ∧ Aside0 (wc.heap[gb327]? = some (.cells #[.int .i64 a0_0, .int .i64 a0_1, .int .i64 a0_2, .int .i64 a0_3] 25 (0, 0))) ∧ Aside0 (Below w.heap.size w wc))
          case first =>
           have H := HC31.out
           clear HC31
           obtain ⟨t334, A32, H⟩ := ob H
           try dsimp only at H
           by_cases c33 : t334 = 1
           rw [if_pos c33] at H
           have c33b0 : (t334 == 1) = true := beq_iff_eq.mpr c33
           have c33b1 : (t334 != 1) = false := bne_eq_false_iff_eq.mpr c33
           clear c33
           rotate_left
           rw [if_neg c33] at H
           have c33b0 : (t334 == 1) = false := beq_eq_false_iff_ne.mpr c33
           have c33b1 : (t334 != 1) = true := bne_iff_ne.mpr c33
           rotate_left
           all_goals
            (first | rw [c33b0] | (simp only [i64_w, i32_w]; rw [c33b0]) | skip)
            have H' := Aside0.mk H
            clear H
           obtain ⟨hcz34_0, hcz34_1, hcz34_2, hcz34_3, hfz34_0, hfz34_1, hfz34_2, hfz34_3⟩ := bz4 BK327
           rotate_left
           obtain ⟨hcz36_0, hcz36_1, hcz36_2, hcz36_3, hfz36_0, hfz36_1, hfz36_2, hfz36_3⟩ := bz4 BK327
           rotate_left
           all_goals
            go_wp2_with (first | ((with_reducible refine gate_callee (f := 86) rfl ?_); refine gl 34 Tryz.func86 #[.agg #[.int .i64 a0_0, .int .i64 a0_1, .int .i64 a0_2, .int .i64 a0_3]] ?_; (with_reducible refine (impl_Mat_det.calls _ _ _ _ _ _ A32.out).mono ?_); rintro e w35 ⟨rfl, hb⟩; refine ⟨_, rfl, ?_⟩; replace BK327 := bB BK327 hb; replace HB := bS1 HB GE327 hb; (try clear hb)))
            go_meet
           ·case rel => exact ⟨_, (((wrap64 (a0_0 + a0_3)) == 0)), (by first | rfl | (simp; done) | (simp [*]; done)), H', ⟨by have := HJ7.out; have := HJ18.out; have := HJ22.out; first | omega | exact Nat.le_refl _⟩, ⟨bkp BK327⟩, ⟨bbw1 HB GE327⟩⟩
           ·case rel => exact ⟨_, (false), (by first | rfl | (simp; done) | (simp [*]; done)), H', ⟨by have := HJ7.out; have := HJ18.out; have := HJ22.out; first | omega | exact Nat.le_refl _⟩, ⟨bkp BK327⟩, ⟨bbw1 HB GE327⟩⟩
          case rest =>
           clear HC31
           try clear c1
           try clear c2
           try clear p2
           try clear c3
           try clear c3b0
           try clear c3b1
           try clear c3b2
           try clear p6
           try clear c8
           try clear c9
           try clear c14
           try clear c14b0
           try clear c14b1
           try clear c20
           try clear c22
           try clear c25
           try clear c25b0
           try clear c25b1
           try clear c30
           try clear c33
           try clear c33b0
           try clear c33b1
           try clear hcz10_0
           try clear hcz10_1
           try clear hcz10_2
           try clear hcz10_3
           try clear hcz15_0
           try clear hcz15_1
           try clear hcz15_2
           try clear hcz15_3
           try clear hcz17_0
           try clear hcz17_1
           try clear hcz17_2
           try clear hcz17_3
           try clear hcz21_0
           try clear hcz21_1
           try clear hcz21_2
           try clear hcz21_3
           try clear hcz26_0
           try clear hcz26_1
           try clear hcz26_2
           try clear hcz26_3
           try clear hcz28_0
           try clear hcz28_1
           try clear hcz28_2
           try clear hcz28_3
           try clear hcz34_0
           try clear hcz34_1
           try clear hcz34_2
           try clear hcz34_3
           try clear hcz36_0
           try clear hcz36_1
           try clear hcz36_2
           try clear hcz36_3
           try clear hcz5_0
           try clear hcz5_1
           try clear hcz5_2
           try clear hcz5_3
           try clear hfz10_0
           try clear hfz10_1
           try clear hfz10_2
           try clear hfz10_3
           try clear hfz15_0
           try clear hfz15_1
           try clear hfz15_2
           try clear hfz15_3
           try clear hfz17_0
           try clear hfz17_1
           try clear hfz17_2
           try clear hfz17_3
           try clear hfz21_0
           try clear hfz21_1
           try clear hfz21_2
           try clear hfz21_3
           try clear hfz26_0
           try clear hfz26_1
           try clear hfz26_2
           try clear hfz26_3
           try clear hfz28_0
           try clear hfz28_1
           try clear hfz28_2
           try clear hfz28_3
           try clear hfz34_0
           try clear hfz34_1
           try clear hfz34_2
           try clear hfz34_3
           try clear hfz36_0
           try clear hfz36_1
           try clear hfz36_2
           try clear hfz36_3
           try clear hfz5_0
           try clear hfz5_1
           try clear hfz5_2
           try clear hfz5_3
           try clear p2
           try clear p6
           obtain ⟨kq, x32_30, rfl, HA, HJ30, BK327, HB⟩ := hcut
           cases kq with
           | zero => exact absurd HA.out (by simp [impl_Mat_order.j3])
           | succ kj30 =>
            have H := HA.out
            clear HA
            simp only [impl_Mat_order.j3] at H
            by_cases c38 : x32_30 = true
            subst c38
            replace H := ifT H
            obtain rfl := Option.some.inj H
            rotate_left
            replace c38 := Bool.eq_false_iff.mpr c38
            subst c38
            replace H := ifF H
            obtain ⟨t335, A39, H⟩ := ob H
            try dsimp only at H
            by_cases c40 : t335 = 1
            rw [if_pos c40] at H
            have c40b0 : (t335 == 1) = true := beq_iff_eq.mpr c40
            have c40b1 : (t335 != 1) = false := bne_eq_false_iff_eq.mpr c40
            clear c40
            by_cases c41 : (wrap64 (a0_0 + a0_3)) = 1
            rw [if_pos c41] at H
            have c41b0 : ((wrap64 (a0_0 + a0_3)) == 1) = true := beq_iff_eq.mpr c41
            have c41b1 : ((wrap64 (a0_0 + a0_3)) != 1) = false := bne_eq_false_iff_eq.mpr c41
            clear c41
            obtain rfl := Option.some.inj H
            rotate_left
            rw [if_neg c41] at H
            have c41b0 : ((wrap64 (a0_0 + a0_3)) == 1) = false := beq_eq_false_iff_ne.mpr c41
            have c41b1 : ((wrap64 (a0_0 + a0_3)) != 1) = true := bne_iff_ne.mpr c41
            obtain rfl := Option.some.inj H
            rotate_left
            rw [if_neg c40] at H
            have c40b0 : (t335 == 1) = false := beq_eq_false_iff_ne.mpr c40
            have c40b1 : (t335 != 1) = true := bne_iff_ne.mpr c40
            obtain rfl := Option.some.inj H
            rotate_left
            ·go_wp2
             go_ret
             exact er (bbw1 HB GE327)
            rotate_left 3
            all_goals
             obtain ⟨hcz42_0, hcz42_1, hcz42_2, hcz42_3, hfz42_0, hfz42_1, hfz42_2, hfz42_3⟩ := bz4 BK327
             go_wp2_with (first | ((with_reducible refine gate_callee (f := 86) rfl ?_); refine gl 42 Tryz.func86 #[.agg #[.int .i64 a0_0, .int .i64 a0_1, .int .i64 a0_2, .int .i64 a0_3]] ?_; (with_reducible refine (impl_Mat_det.calls _ _ _ _ _ _ A39.out).mono ?_); rintro e w43 ⟨rfl, hb⟩; refine ⟨_, rfl, ?_⟩; replace BK327 := bB BK327 hb; replace HB := bS1 HB GE327 hb; (try clear hb)))
             go_ret
             exact er (bbw1 HB GE327)
/-! ### impl_Mat_isReflection: function 53 -/
def impl_Mat_isReflection.f (k : Nat) (a0_0 : Int) (a0_1 : Int) (a0_2 : Int) (a0_3 : Int) : Option (Bool) := (impl_Mat_det.f a0_0 a0_1 a0_2 a0_3).bind fun t337 => (if t337 = (-1) then ((impl_Mat_order.f k a0_0 a0_1 a0_2 a0_3).bind fun t338 => (some (t338 == 2))) else (some false))
set_option maxHeartbeats 8000000 in
set_option maxRecDepth 100000 in
theorem impl_Mat_isReflection.calls (k : Nat) (a0_0 : Int) (a0_1 : Int) (a0_2 : Int) (a0_3 : Int) (r : Bool) (w : World) (h : impl_Mat_isReflection.f k a0_0 a0_1 a0_2 a0_3 = some r) :
  Calls Tryz.prog 53 #[.agg #[.int .i64 a0_0, .int .i64 a0_1, .int .i64 a0_2, .int .i64 a0_3]] w fun e w' => e = .returned (.bool r) ∧ Below w.heap.size w w' := by
 have hu25 := Tryz.underlying25
 have HB := asd (Below.refl w.heap.size w)
 have H : ((impl_Mat_det.f a0_0 a0_1 a0_2 a0_3).bind fun t337 => (if t337 = (-1) then ((impl_Mat_order.f k a0_0 a0_1 a0_2 a0_3).bind fun t338 => (some (t338 == 2))) else (some false))) = some r := h
 clear h
 obtain ⟨t337, A2, H⟩ := ob H
 try dsimp only at H
 by_cases c3 : t337 = (-1)
 ·rw [if_pos c3] at H
  have c3b0 : (t337 == (-1)) = true := beq_iff_eq.mpr c3
  have c3b1 : (t337 != (-1)) = false := bne_eq_false_iff_eq.mpr c3
  clear c3
  obtain ⟨t338, A4, H⟩ := ob H
  try dsimp only at H
  obtain rfl := Option.some.inj H
  go_enter Tryz.func53, Tryz.ntmps53
  go_wp2_with (first | ((with_reducible refine gd 1 rfl ?_); refine bx #[.int .i64 a0_0, .int .i64 a0_1, .int .i64 a0_2, .int .i64 a0_3] 25 ?_; intro gb336 hg w5 BK336 hb; have GE336 := ngw0 hg HB; replace HB := bS0 HB hb; clear hb hg; obtain ⟨hcz6_0, hcz6_1, hcz6_2, hcz6_3, hfz6_0, hfz6_1, hfz6_2, hfz6_3⟩ := bz4 BK336) | ((with_reducible refine gate_callee (f := 86) rfl ?_); refine gl 4 Tryz.func86 #[.agg #[.int .i64 a0_0, .int .i64 a0_1, .int .i64 a0_2, .int .i64 a0_3]] ?_; (with_reducible refine (impl_Mat_det.calls _ _ _ _ _ _ A2.out).mono ?_); rintro e w7 ⟨rfl, hb⟩; refine ⟨_, rfl, ?_⟩; replace BK336 := bB BK336 hb; replace HB := bS1 HB GE336 hb; (try clear hb); obtain ⟨hcz8_0, hcz8_1, hcz8_2, hcz8_3, hfz8_0, hfz8_1, hfz8_2, hfz8_3⟩ := bz4 BK336) | (go_at_call 97; (with_reducible refine (impl_Mat_order.calls _ _ _ _ _ _ _ A4.out).mono ?_); rintro e w9 ⟨rfl, hb⟩; replace BK336 := bB BK336 hb; replace HB := bS1 HB GE336 hb; (try clear hb)))
  go_ret
  exact er (bbw1 HB GE336)
 ·rw [if_neg c3] at H
  have c3b0 : (t337 == (-1)) = false := beq_eq_false_iff_ne.mpr c3
  have c3b1 : (t337 != (-1)) = true := bne_iff_ne.mpr c3
  obtain rfl := Option.some.inj H
  go_enter Tryz.func53, Tryz.ntmps53
  go_wp2_with (first | ((with_reducible refine gd 1 rfl ?_); refine bx #[.int .i64 a0_0, .int .i64 a0_1, .int .i64 a0_2, .int .i64 a0_3] 25 ?_; intro gb336 hg w10 BK336 hb; have GE336 := ngw0 hg HB; replace HB := bS0 HB hb; clear hb hg; obtain ⟨hcz11_0, hcz11_1, hcz11_2, hcz11_3, hfz11_0, hfz11_1, hfz11_2, hfz11_3⟩ := bz4 BK336) | ((with_reducible refine gate_callee (f := 86) rfl ?_); refine gl 4 Tryz.func86 #[.agg #[.int .i64 a0_0, .int .i64 a0_1, .int .i64 a0_2, .int .i64 a0_3]] ?_; (with_reducible refine (impl_Mat_det.calls _ _ _ _ _ _ A2.out).mono ?_); rintro e w12 ⟨rfl, hb⟩; refine ⟨_, rfl, ?_⟩; replace BK336 := bB BK336 hb; replace HB := bS1 HB GE336 hb; (try clear hb)))
  go_ret
  exact er (bbw1 HB GE336)
/-! ### impl_Mat_isRotation: function 124 -/
def impl_Mat_isRotation.f (k : Nat) (a0_0 : Int) (a0_1 : Int) (a0_2 : Int) (a0_3 : Int) : Option (Bool) := (impl_Mat_det.f a0_0 a0_1 a0_2 a0_3).bind fun t340 => (if t340 = 1 then ((impl_Mat_order.f k a0_0 a0_1 a0_2 a0_3).bind fun t341 => (some (decide (t341 > 0)))) else (some false))
set_option maxHeartbeats 8000000 in
set_option maxRecDepth 100000 in
theorem impl_Mat_isRotation.calls (k : Nat) (a0_0 : Int) (a0_1 : Int) (a0_2 : Int) (a0_3 : Int) (r : Bool) (w : World) (h : impl_Mat_isRotation.f k a0_0 a0_1 a0_2 a0_3 = some r) :
  Calls Tryz.prog 124 #[.agg #[.int .i64 a0_0, .int .i64 a0_1, .int .i64 a0_2, .int .i64 a0_3]] w fun e w' => e = .returned (.bool r) ∧ Below w.heap.size w w' := by
 have hu25 := Tryz.underlying25
 have HB := asd (Below.refl w.heap.size w)
 have H : ((impl_Mat_det.f a0_0 a0_1 a0_2 a0_3).bind fun t340 => (if t340 = 1 then ((impl_Mat_order.f k a0_0 a0_1 a0_2 a0_3).bind fun t341 => (some (decide (t341 > 0)))) else (some false))) = some r := h
 clear h
 obtain ⟨t340, A2, H⟩ := ob H
 try dsimp only at H
 by_cases c3 : t340 = 1
 ·rw [if_pos c3] at H
  have c3b0 : (t340 == 1) = true := beq_iff_eq.mpr c3
  have c3b1 : (t340 != 1) = false := bne_eq_false_iff_eq.mpr c3
  clear c3
  obtain ⟨t341, A4, H⟩ := ob H
  try dsimp only at H
  obtain rfl := Option.some.inj H
  go_enter Tryz.func124, Tryz.ntmps124
  go_wp2_with (first | ((with_reducible refine gd 1 rfl ?_); refine bx #[.int .i64 a0_0, .int .i64 a0_1, .int .i64 a0_2, .int .i64 a0_3] 25 ?_; intro gb339 hg w5 BK339 hb; have GE339 := ngw0 hg HB; replace HB := bS0 HB hb; clear hb hg; obtain ⟨hcz6_0, hcz6_1, hcz6_2, hcz6_3, hfz6_0, hfz6_1, hfz6_2, hfz6_3⟩ := bz4 BK339) | ((with_reducible refine gate_callee (f := 86) rfl ?_); refine gl 4 Tryz.func86 #[.agg #[.int .i64 a0_0, .int .i64 a0_1, .int .i64 a0_2, .int .i64 a0_3]] ?_; (with_reducible refine (impl_Mat_det.calls _ _ _ _ _ _ A2.out).mono ?_); rintro e w7 ⟨rfl, hb⟩; refine ⟨_, rfl, ?_⟩; replace BK339 := bB BK339 hb; replace HB := bS1 HB GE339 hb; (try clear hb); obtain ⟨hcz8_0, hcz8_1, hcz8_2, hcz8_3, hfz8_0, hfz8_1, hfz8_2, hfz8_3⟩ := bz4 BK339) | (go_at_call 97; (with_reducible refine (impl_Mat_order.calls _ _ _ _ _ _ _ A4.out).mono ?_); rintro e w9 ⟨rfl, hb⟩; replace BK339 := bB BK339 hb; replace HB := bS1 HB GE339 hb; (try clear hb)))
  go_ret
  exact er (bbw1 HB GE339)
 ·rw [if_neg c3] at H
  have c3b0 : (t340 == 1) = false := beq_eq_false_iff_ne.mpr c3
  have c3b1 : (t340 != 1) = true := bne_iff_ne.mpr c3
  obtain rfl := Option.some.inj H
  go_enter Tryz.func124, Tryz.ntmps124
  go_wp2_with (first | ((with_reducible refine gd 1 rfl ?_); refine bx #[.int .i64 a0_0, .int .i64 a0_1, .int .i64 a0_2, .int .i64 a0_3] 25 ?_; intro gb339 hg w10 BK339 hb; have GE339 := ngw0 hg HB; replace HB := bS0 HB hb; clear hb hg; obtain ⟨hcz11_0, hcz11_1, hcz11_2, hcz11_3, hfz11_0, hfz11_1, hfz11_2, hfz11_3⟩ := bz4 BK339) | ((with_reducible refine gate_callee (f := 86) rfl ?_); refine gl 4 Tryz.func86 #[.agg #[.int .i64 a0_0, .int .i64 a0_1, .int .i64 a0_2, .int .i64 a0_3]] ?_; (with_reducible refine (impl_Mat_det.calls _ _ _ _ _ _ A2.out).mono ?_); rintro e w12 ⟨rfl, hb⟩; refine ⟨_, rfl, ?_⟩; replace BK339 := bB BK339 hb; replace HB := bS1 HB GE339 hb; (try clear hb)))
  go_ret
  exact er (bbw1 HB GE339)
/-! ### impl_Mat_isTurn: function 84 -/
def impl_Mat_isTurn.f (k : Nat) (a0_0 : Int) (a0_1 : Int) (a0_2 : Int) (a0_3 : Int) : Option (Bool) := (impl_Mat_isRotation.f k a0_0 a0_1 a0_2 a0_3).bind fun t343 => (if t343 = true then (some true) else ((impl_Mat_isReflection.f k a0_0 a0_1 a0_2 a0_3).bind fun t344 => (some t344)))
set_option maxHeartbeats 8000000 in
set_option maxRecDepth 100000 in
theorem impl_Mat_isTurn.calls (k : Nat) (a0_0 : Int) (a0_1 : Int) (a0_2 : Int) (a0_3 : Int) (r : Bool) (w : World) (h : impl_Mat_isTurn.f k a0_0 a0_1 a0_2 a0_3 = some r) :
  Calls Tryz.prog 84 #[.agg #[.int .i64 a0_0, .int .i64 a0_1, .int .i64 a0_2, .int .i64 a0_3]] w fun e w' => e = .returned (.bool r) ∧ Below w.heap.size w w' := by
 have hu25 := Tryz.underlying25
 have HB := asd (Below.refl w.heap.size w)
 have H : ((impl_Mat_isRotation.f k a0_0 a0_1 a0_2 a0_3).bind fun t343 => (if t343 = true then (some true) else ((impl_Mat_isReflection.f k a0_0 a0_1 a0_2 a0_3).bind fun t344 => (some t344)))) = some r := h
 clear h
 obtain ⟨t343, A2, H⟩ := ob H
 try dsimp only at H
 by_cases c3 : t343 = true
 ·subst c3
  replace H := ifT H
  obtain rfl := Option.some.inj H
  go_enter Tryz.func84, Tryz.ntmps84
  go_wp2_with (first | ((with_reducible refine gd 1 rfl ?_); refine bx #[.int .i64 a0_0, .int .i64 a0_1, .int .i64 a0_2, .int .i64 a0_3] 25 ?_; intro gb342 hg w4 BK342 hb; have GE342 := ngw0 hg HB; replace HB := bS0 HB hb; clear hb hg; obtain ⟨hcz5_0, hcz5_1, hcz5_2, hcz5_3, hfz5_0, hfz5_1, hfz5_2, hfz5_3⟩ := bz4 BK342) | ((with_reducible refine gate_callee (f := 124) rfl ?_); refine gl 4 Tryz.func124 #[.agg #[.int .i64 a0_0, .int .i64 a0_1, .int .i64 a0_2, .int .i64 a0_3]] ?_; (with_reducible refine (impl_Mat_isRotation.calls _ _ _ _ _ _ _ A2.out).mono ?_); rintro e w6 ⟨rfl, hb⟩; refine ⟨_, rfl, ?_⟩; replace BK342 := bB BK342 hb; replace HB := bS1 HB GE342 hb; (try clear hb)))
  go_ret
  exact er (bbw1 HB GE342)
 ·replace c3 := Bool.eq_false_iff.mpr c3
  subst c3
  replace H := ifF H
  obtain ⟨t344, A7, H⟩ := ob H
  try dsimp only at H
  obtain rfl := Option.some.inj H
  go_enter Tryz.func84, Tryz.ntmps84
  go_wp2_with (first | ((with_reducible refine gd 1 rfl ?_); refine bx #[.int .i64 a0_0, .int .i64 a0_1, .int .i64 a0_2, .int .i64 a0_3] 25 ?_; intro gb342 hg w8 BK342 hb; have GE342 := ngw0 hg HB; replace HB := bS0 HB hb; clear hb hg; obtain ⟨hcz9_0, hcz9_1, hcz9_2, hcz9_3, hfz9_0, hfz9_1, hfz9_2, hfz9_3⟩ := bz4 BK342) | ((with_reducible refine gate_callee (f := 124) rfl ?_); refine gl 4 Tryz.func124 #[.agg #[.int .i64 a0_0, .int .i64 a0_1, .int .i64 a0_2, .int .i64 a0_3]] ?_; (with_reducible refine (impl_Mat_isRotation.calls _ _ _ _ _ _ _ A2.out).mono ?_); rintro e w10 ⟨rfl, hb⟩; refine ⟨_, rfl, ?_⟩; replace BK342 := bB BK342 hb; replace HB := bS1 HB GE342 hb; (try clear hb); obtain ⟨hcz11_0, hcz11_1, hcz11_2, hcz11_3, hfz11_0, hfz11_1, hfz11_2, hfz11_3⟩ := bz4 BK342) | (go_at_call 53; (with_reducible refine (impl_Mat_isReflection.calls _ _ _ _ _ _ _ A7.out).mono ?_); rintro e w12 ⟨rfl, hb⟩; replace BK342 := bB BK342 hb; replace HB := bS1 HB GE342 hb; (try clear hb)))
  go_ret
  exact er (bbw1 HB GE342)
/-! ### impl_IsMotion: function 34 -/
def impl_IsMotion.f (k : Nat) (a0_0 : Int) (a0_1 : Int) (a0_2 : Int) (a0_3 : Int) (a0_4 : Int) (a0_5 : Int) : Option (Bool) := (impl_IsMat.f a0_0 a0_1 a0_2 a0_3).bind fun t346 => (if t346 = true then ((impl_Mat_isTurn.f k a0_0 a0_1 a0_2 a0_3).bind fun t347 => (if t347 = true then ((impl_IsVec.f a0_4 a0_5).bind fun t348 => (some t348)) else (some false))) else (some false))
set_option maxHeartbeats 8000000 in
set_option maxRecDepth 100000 in
theorem impl_IsMotion.calls (k : Nat) (a0_0 : Int) (a0_1 : Int) (a0_2 : Int) (a0_3 : Int) (a0_4 : Int) (a0_5 : Int) (r : Bool) (w : World) (h : impl_IsMotion.f k a0_0 a0_1 a0_2 a0_3 a0_4 a0_5 = some r) :
  Calls Tryz.prog 34 #[.agg #[.int .i64 a0_0, .int .i64 a0_1, .int .i64 a0_2, .int .i64 a0_3, .int .i64 a0_4, .int .i64 a0_5]] w fun e w' => e = .returned (.bool r) ∧ Below w.heap.size w w' := by
 have hu29 := Tryz.underlying29
 have hu25 := Tryz.underlying25
 have hu27 := Tryz.underlying27
 have HB := asd (Below.refl w.heap.size w)
 have H : ((impl_IsMat.f a0_0 a0_1 a0_2 a0_3).bind fun t346 => (if t346 = true then ((impl_Mat_isTurn.f k a0_0 a0_1 a0_2 a0_3).bind fun t347 => (if t347 = true then ((impl_IsVec.f a0_4 a0_5).bind fun t348 => (some t348)) else (some false))) else (some false))) = some r := h
 clear h
 obtain ⟨t346, A2, H⟩ := ob H
 try dsimp only at H
 by_cases c3 : t346 = true
 ·subst c3
  replace H := ifT H
  obtain ⟨t347, A4, H⟩ := ob H
  try dsimp only at H
  by_cases c5 : t347 = true
  ·subst c5
   replace H := ifT H
   obtain ⟨t348, A6, H⟩ := ob H
   try dsimp only at H
   obtain rfl := Option.some.inj H
   go_enter Tryz.func34, Tryz.ntmps34
   go_wp2_with (first | ((with_reducible refine gd 1 rfl ?_); refine bx #[.int .i64 a0_0, .int .i64 a0_1, .int .i64 a0_2, .int .i64 a0_3, .int .i64 a0_4, .int .i64 a0_5] 29 ?_; intro gb345 hg w7 BK345 hb; have GE345 := ngw0 hg HB; replace HB := bS0 HB hb; clear hb hg; obtain ⟨hcz8_0, hcz8_1, hcz8_2, hcz8_3, hcz8_4, hcz8_5, hfz8_0, hfz8_1, hfz8_2, hfz8_3, hfz8_4, hfz8_5⟩ := bz6 BK345) | ((with_reducible refine gate_callee (f := 52) rfl ?_); refine gl 5 Tryz.func52 #[.agg #[.int .i64 a0_0, .int .i64 a0_1, .int .i64 a0_2, .int .i64 a0_3]] ?_; (with_reducible refine (impl_IsMat.calls _ _ _ _ _ _ A2.out).mono ?_); rintro e w9 ⟨rfl, hb⟩; refine ⟨_, rfl, ?_⟩; replace BK345 := bB BK345 hb; replace HB := bS1 HB GE345 hb; (try clear hb); obtain ⟨hcz10_0, hcz10_1, hcz10_2, hcz10_3, hcz10_4, hcz10_5, hfz10_0, hfz10_1, hfz10_2, hfz10_3, hfz10_4, hfz10_5⟩ := bz6 BK345) | (go_at_call 84; (with_reducible refine (impl_Mat_isTurn.calls _ _ _ _ _ _ _ A4.out).mono ?_); rintro e w11 ⟨rfl, hb⟩; replace BK345 := bB BK345 hb; replace HB := bS1 HB GE345 hb; (try clear hb); obtain ⟨hcz12_0, hcz12_1, hcz12_2, hcz12_3, hcz12_4, hcz12_5, hfz12_0, hfz12_1, hfz12_2, hfz12_3, hfz12_4, hfz12_5⟩ := bz6 BK345) | (go_at_call 37; (with_reducible refine (impl_IsVec.calls _ _ _ _ A6.out).mono ?_); rintro e w13 ⟨rfl, hb⟩; replace BK345 := bB BK345 hb; replace HB := bS1 HB GE345 hb; (try clear hb)))
   go_ret
   exact er (bbw1 HB GE345)
  ·replace c5 := Bool.eq_false_iff.mpr c5
   subst c5
   replace H := ifF H
   obtain rfl := Option.some.inj H
   go_enter Tryz.func34, Tryz.ntmps34
   go_wp2_with (first | ((with_reducible refine gd 1 rfl ?_); refine bx #[.int .i64 a0_0, .int .i64 a0_1, .int .i64 a0_2, .int .i64 a0_3, .int .i64 a0_4, .int .i64 a0_5] 29 ?_; intro gb345 hg w14 BK345 hb; have GE345 := ngw0 hg HB; replace HB := bS0 HB hb; clear hb hg; obtain ⟨hcz15_0, hcz15_1, hcz15_2, hcz15_3, hcz15_4, hcz15_5, hfz15_0, hfz15_1, hfz15_2, hfz15_3, hfz15_4, hfz15_5⟩ := bz6 BK345) | ((with_reducible refine gate_callee (f := 52) rfl ?_); refine gl 5 Tryz.func52 #[.agg #[.int .i64 a0_0, .int .i64 a0_1, .int .i64 a0_2, .int .i64 a0_3]] ?_; (with_reducible refine (impl_IsMat.calls _ _ _ _ _ _ A2.out).mono ?_); rintro e w16 ⟨rfl, hb⟩; refine ⟨_, rfl, ?_⟩; replace BK345 := bB BK345 hb; replace HB := bS1 HB GE345 hb; (try clear hb); obtain ⟨hcz17_0, hcz17_1, hcz17_2, hcz17_3, hcz17_4, hcz17_5, hfz17_0, hfz17_1, hfz17_2, hfz17_3, hfz17_4, hfz17_5⟩ := bz6 BK345) | (go_at_call 84; (with_reducible refine (impl_Mat_isTurn.calls _ _ _ _ _ _ _ A4.out).mono ?_); rintro e w18 ⟨rfl, hb⟩; replace BK345 := bB BK345 hb; replace HB := bS1 HB GE345 hb; (try clear hb)))
   go_ret
   exact er (bbw1 HB GE345)
 ·replace c3 := Bool.eq_false_iff.mpr c3
  subst c3
  replace H := ifF H
  obtain rfl := Option.some.inj H
  go_enter Tryz.func34, Tryz.ntmps34
  go_wp2_with (first | ((with_reducible refine gd 1 rfl ?_); refine bx #[.int .i64 a0_0, .int .i64 a0_1, .int .i64 a0_2, .int .i64 a0_3, .int .i64 a0_4, .int .i64 a0_5] 29 ?_; intro gb345 hg w19 BK345 hb; have GE345 := ngw0 hg HB; replace HB := bS0 HB hb; clear hb hg; obtain ⟨hcz20_0, hcz20_1, hcz20_2, hcz20_3, hcz20_4, hcz20_5, hfz20_0, hfz20_1, hfz20_2, hfz20_3, hfz20_4, hfz20_5⟩ := bz6 BK345) | ((with_reducible refine gate_callee (f := 52) rfl ?_); refine gl 5 Tryz.func52 #[.agg #[.int .i64 a0_0, .int .i64 a0_1, .int .i64 a0_2, .int .i64 a0_3]] ?_; (with_reducible refine (impl_IsMat.calls _ _ _ _ _ _ A2.out).mono ?_); rintro e w21 ⟨rfl, hb⟩; refine ⟨_, rfl, ?_⟩; replace BK345 := bB BK345 hb; replace HB := bS1 HB GE345 hb; (try clear hb)))
  go_ret
  exact er (bbw1 HB GE345)
/-! ### impl_Mat_apply: function 67 -/
def impl_Mat_apply.f (a0_0 : Int) (a0_1 : Int) (a0_2 : Int) (a0_3 : Int) (a1_0 : Int) (a1_1 : Int) : Option (Int × Int) := some (wrap64 ((wrap64 (a0_0 * a1_0)) + (wrap64 (a0_1 * a1_1))), wrap64 ((wrap64 (a0_2 * a1_0)) + (wrap64 (a0_3 * a1_1))))
set_option maxHeartbeats 8000000 in
set_option maxRecDepth 100000 in
theorem impl_Mat_apply.calls (a0_0 : Int) (a0_1 : Int) (a0_2 : Int) (a0_3 : Int) (a1_0 : Int) (a1_1 : Int) (r1 : Int) (r2 : Int) (w : World) (h : impl_Mat_apply.f a0_0 a0_1 a0_2 a0_3 a1_0 a1_1 = some (r1, r2)) :
  Calls Tryz.prog 67 #[.agg #[.int .i64 a0_0, .int .i64 a0_1, .int .i64 a0_2, .int .i64 a0_3], .agg #[.int .i64 a1_0, .int .i64 a1_1]] w fun e w' => e = .returned (.agg #[.int .i64 r1, .int .i64 r2]) ∧ Below w.heap.size w w' := by
 have hu25 := Tryz.underlying25
 have hu27 := Tryz.underlying27
 have HB := asd (Below.refl w.heap.size w)
 have H : (some (wrap64 ((wrap64 (a0_0 * a1_0)) + (wrap64 (a0_1 * a1_1))), wrap64 ((wrap64 (a0_2 * a1_0)) + (wrap64 (a0_3 * a1_1))))) = some (r1, r2) := h
 clear h
 simp only [Option.some.injEq, Prod.mk.injEq] at H
 obtain ⟨rfl, rfl⟩ := H
 go_enter Tryz.func67, Tryz.ntmps67
 go_wp2_with (first | ((with_reducible refine gd 2 rfl ?_); refine bx #[.int .i64 a0_0, .int .i64 a0_1, .int .i64 a0_2, .int .i64 a0_3] 25 ?_; intro gb349 hg w3 BK349 hb; have GE349 := ngw0 hg HB; replace HB := bS0 HB hb; clear hb hg) | ((with_reducible refine gd 3 rfl ?_); refine bx #[.int .i64 a1_0, .int .i64 a1_1] 27 ?_; intro gb350 hg w4 BK350 hb; have GE350 := ngw1 hg HB GE349; replace HB := bS1 HB GE349 hb; have NB349_350 := nlt hg BK349; have NB350_349 := nsy (nlt hg BK349); replace BK349 := bB BK349 hb; clear hb hg) | ((with_reducible refine gd 4 rfl ?_); refine bx #[.int .i64 0, .int .i64 0] 27 ?_; intro gb351 hg w5 BK351 hb; have GE351 := ngw2 hg HB GE349 GE350; replace HB := bS2 HB GE349 GE350 hb; have NB349_351 := nlt hg BK349; have NB351_349 := nsy (nlt hg BK349); replace BK349 := bB BK349 hb; have NB350_351 := nlt hg BK350; have NB351_350 := nsy (nlt hg BK350); replace BK350 := bB BK350 hb; clear hb hg; have hnb6 := NB349_350.out; have hnc6 := NB350_349.out; have hnb7 := NB349_351.out; have hnc7 := NB351_349.out; obtain ⟨hcz8_0, hcz8_1, hcz8_2, hcz8_3, hfz8_0, hfz8_1, hfz8_2, hfz8_3⟩ := bz4 BK349; have hnb9 := NB350_351.out; have hnc9 := NB351_350.out; obtain ⟨hcz10_0, hcz10_1, hfz10_0, hfz10_1⟩ := bz2 BK350; obtain ⟨hcz11_0, hcz11_1, hfz11_0, hfz11_1⟩ := bz2 BK351))
 refine bodyPost_ret (results_cell_row rfl _ _ gb351 27 #[.int .i64 (wrap64 ((wrap64 (a0_0 * a1_0)) + (wrap64 (a0_1 * a1_1)))), .int .i64 (wrap64 ((wrap64 (a0_2 * a1_0)) + (wrap64 (a0_3 * a1_1))))] (0, 0) _ rfl (bq0 BK351) Tryz.underlying27 rfl (by kernel_rfl)) rfl ?_
 exact er (bbw3 HB GE349 GE350 GE351)
/-! ### impl_Mat_times: function 125 -/
def impl_Mat_times.f (a0_0 : Int) (a0_1 : Int) (a0_2 : Int) (a0_3 : Int) (a1_0 : Int) (a1_1 : Int) (a1_2 : Int) (a1_3 : Int) : Option (Int × Int × Int × Int) := some (wrap64 ((wrap64 (a0_0 * a1_0)) + (wrap64 (a0_1 * a1_2))), wrap64 ((wrap64 (a0_0 * a1_1)) + (wrap64 (a0_1 * a1_3))), wrap64 ((wrap64 (a0_2 * a1_0)) + (wrap64 (a0_3 * a1_2))), wrap64 ((wrap64 (a0_2 * a1_1)) + (wrap64 (a0_3 * a1_3))))
set_option maxHeartbeats 8000000 in
set_option maxRecDepth 100000 in
theorem impl_Mat_times.calls (a0_0 : Int) (a0_1 : Int) (a0_2 : Int) (a0_3 : Int) (a1_0 : Int) (a1_1 : Int) (a1_2 : Int) (a1_3 : Int) (r1 : Int) (r2 : Int) (r3 : Int) (r4 : Int) (w : World) (h : impl_Mat_times.f a0_0 a0_1 a0_2 a0_3 a1_0 a1_1 a1_2 a1_3 = some (r1, r2, r3, r4)) :
  Calls Tryz.prog 125 #[.agg #[.int .i64 a0_0, .int .i64 a0_1, .int .i64 a0_2, .int .i64 a0_3], .agg #[.int .i64 a1_0, .int .i64 a1_1, .int .i64 a1_2, .int .i64 a1_3]] w fun e w' => e = .returned (.agg #[.int .i64 r1, .int .i64 r2, .int .i64 r3, .int .i64 r4]) ∧ Below w.heap.size w w' := by
 have hu25 := Tryz.underlying25
 have HB := asd (Below.refl w.heap.size w)
 have H : (some (wrap64 ((wrap64 (a0_0 * a1_0)) + (wrap64 (a0_1 * a1_2))), wrap64 ((wrap64 (a0_0 * a1_1)) + (wrap64 (a0_1 * a1_3))), wrap64 ((wrap64 (a0_2 * a1_0)) + (wrap64 (a0_3 * a1_2))), wrap64 ((wrap64 (a0_2 * a1_1)) + (wrap64 (a0_3 * a1_3))))) = some (r1, r2, r3, r4) := h
 clear h
 simp only [Option.some.injEq, Prod.mk.injEq] at H
 obtain ⟨rfl, rfl, rfl, rfl⟩ := H
 go_enter Tryz.func125, Tryz.ntmps125
 go_wp2_with (first | ((with_reducible refine gd 2 rfl ?_); refine bx #[.int .i64 a0_0, .int .i64 a0_1, .int .i64 a0_2, .int .i64 a0_3] 25 ?_; intro gb352 hg w3 BK352 hb; have GE352 := ngw0 hg HB; replace HB := bS0 HB hb; clear hb hg) | ((with_reducible refine gd 3 rfl ?_); refine bx #[.int .i64 a1_0, .int .i64 a1_1, .int .i64 a1_2, .int .i64 a1_3] 25 ?_; intro gb353 hg w4 BK353 hb; have GE353 := ngw1 hg HB GE352; replace HB := bS1 HB GE352 hb; have NB352_353 := nlt hg BK352; have NB353_352 := nsy (nlt hg BK352); replace BK352 := bB BK352 hb; clear hb hg) | ((with_reducible refine gd 4 rfl ?_); refine bx #[.int .i64 0, .int .i64 0, .int .i64 0, .int .i64 0] 25 ?_; intro gb354 hg w5 BK354 hb; have GE354 := ngw2 hg HB GE352 GE353; replace HB := bS2 HB GE352 GE353 hb; have NB352_354 := nlt hg BK352; have NB354_352 := nsy (nlt hg BK352); replace BK352 := bB BK352 hb; have NB353_354 := nlt hg BK353; have NB354_353 := nsy (nlt hg BK353); replace BK353 := bB BK353 hb; clear hb hg; have hnb6 := NB352_353.out; have hnc6 := NB353_352.out; have hnb7 := NB352_354.out; have hnc7 := NB354_352.out; obtain ⟨hcz8_0, hcz8_1, hcz8_2, hcz8_3, hfz8_0, hfz8_1, hfz8_2, hfz8_3⟩ := bz4 BK352; have hnb9 := NB353_354.out; have hnc9 := NB354_353.out; obtain ⟨hcz10_0, hcz10_1, hcz10_2, hcz10_3, hfz10_0, hfz10_1, hfz10_2, hfz10_3⟩ := bz4 BK353; obtain ⟨hcz11_0, hcz11_1, hcz11_2, hcz11_3, hfz11_0, hfz11_1, hfz11_2, hfz11_3⟩ := bz4 BK354))
 refine bodyPost_ret (results_cell_row rfl _ _ gb354 25 #[.int .i64 (wrap64 ((wrap64 (a0_0 * a1_0)) + (wrap64 (a0_1 * a1_2)))), .int .i64 (wrap64 ((wrap64 (a0_0 * a1_1)) + (wrap64 (a0_1 * a1_3)))), .int .i64 (wrap64 ((wrap64 (a0_2 * a1_0)) + (wrap64 (a0_3 * a1_2)))), .int .i64 (wrap64 ((wrap64 (a0_2 * a1_1)) + (wrap64 (a0_3 * a1_3))))] (0, 0) _ rfl (bq0 BK354) Tryz.underlying25 rfl (by kernel_rfl)) rfl ?_
 exact er (bbw3 HB GE352 GE353 GE354)
/-! ### impl_Vec_add: function 126 -/
def impl_Vec_add.f (a0_0 : Int) (a0_1 : Int) (a1_0 : Int) (a1_1 : Int) : Option (Int × Int) := some (wrap64 (a0_0 + a1_0), wrap64 (a0_1 + a1_1))
set_option maxHeartbeats 8000000 in
set_option maxRecDepth 100000 in
theorem impl_Vec_add.calls (a0_0 : Int) (a0_1 : Int) (a1_0 : Int) (a1_1 : Int) (r1 : Int) (r2 : Int) (w : World) (h : impl_Vec_add.f a0_0 a0_1 a1_0 a1_1 = some (r1, r2)) :
  Calls Tryz.prog 126 #[.agg #[.int .i64 a0_0, .int .i64 a0_1], .agg #[.int .i64 a1_0, .int .i64 a1_1]] w fun e w' => e = .returned (.agg #[.int .i64 r1, .int .i64 r2]) ∧ Below w.heap.size w w' := by
 have hu27 := Tryz.underlying27
 have HB := asd (Below.refl w.heap.size w)
 have H : (some (wrap64 (a0_0 + a1_0), wrap64 (a0_1 + a1_1))) = some (r1, r2) := h
 clear h
 simp only [Option.some.injEq, Prod.mk.injEq] at H
 obtain ⟨rfl, rfl⟩ := H
 go_enter Tryz.func126, Tryz.ntmps126
 go_wp2_with (first | ((with_reducible refine gd 2 rfl ?_); refine bx #[.int .i64 a0_0, .int .i64 a0_1] 27 ?_; intro gb355 hg w3 BK355 hb; have GE355 := ngw0 hg HB; replace HB := bS0 HB hb; clear hb hg) | ((with_reducible refine gd 3 rfl ?_); refine bx #[.int .i64 a1_0, .int .i64 a1_1] 27 ?_; intro gb356 hg w4 BK356 hb; have GE356 := ngw1 hg HB GE355; replace HB := bS1 HB GE355 hb; have NB355_356 := nlt hg BK355; have NB356_355 := nsy (nlt hg BK355); replace BK355 := bB BK355 hb; clear hb hg) | ((with_reducible refine gd 4 rfl ?_); refine bx #[.int .i64 0, .int .i64 0] 27 ?_; intro gb357 hg w5 BK357 hb; have GE357 := ngw2 hg HB GE355 GE356; replace HB := bS2 HB GE355 GE356 hb; have NB355_357 := nlt hg BK355; have NB357_355 := nsy (nlt hg BK355); replace BK355 := bB BK355 hb; have NB356_357 := nlt hg BK356; have NB357_356 := nsy (nlt hg BK356); replace BK356 := bB BK356 hb; clear hb hg; have hnb6 := NB355_356.out; have hnc6 := NB356_355.out; have hnb7 := NB355_357.out; have hnc7 := NB357_355.out; obtain ⟨hcz8_0, hcz8_1, hfz8_0, hfz8_1⟩ := bz2 BK355; have hnb9 := NB356_357.out; have hnc9 := NB357_356.out; obtain ⟨hcz10_0, hcz10_1, hfz10_0, hfz10_1⟩ := bz2 BK356; obtain ⟨hcz11_0, hcz11_1, hfz11_0, hfz11_1⟩ := bz2 BK357))
 refine bodyPost_ret (results_cell_row rfl _ _ gb357 27 #[.int .i64 (wrap64 (a0_0 + a1_0)), .int .i64 (wrap64 (a0_1 + a1_1))] (0, 0) _ rfl (bq0 BK357) Tryz.underlying27 rfl (by kernel_rfl)) rfl ?_
 exact er (bbw3 HB GE355 GE356 GE357)
/-! ### impl_Motion_times: function 87 -/
def impl_Motion_times.f (a0_0 : Int) (a0_1 : Int) (a0_2 : Int) (a0_3 : Int) (a0_4 : Int) (a0_5 : Int) (a1_0 : Int) (a1_1 : Int) (a1_2 : Int) (a1_3 : Int) (a1_4 : Int) (a1_5 : Int) : Option (Int × Int × Int × Int × Int × Int) := (impl_Mat_times.f a0_0 a0_1 a0_2 a0_3 a1_0 a1_1 a1_2 a1_3).bind fun bt361 => ((impl_Mat_apply.f a0_0 a0_1 a0_2 a0_3 a1_4 a1_5).bind fun bt365 => ((impl_Vec_add.f bt365.1 bt365.2 a0_4 a0_5).bind fun bt367 => (some (bt361.1, bt361.2.1, bt361.2.2.1, bt361.2.2.2, bt367.1, bt367.2))))
def impl_Motion_times.T1 : Bool × List (List Nat × List Nat) := (true, [([], []), ([0], [0]), ([], []), ([2], [2]), ([1, 3], [1, 3]), ([], []), ([5], [5]), ([], []), ([7], [7]), ([6, 8, 4], [6, 8]), ([], []), ([10], [10]), ([9, 11, 9], [9, 11]), ([4, 12], [4, 12]), ([13, 12, 0, 1, 2, 3, 4, 5, 6, 7, 8, 9, 10, 11, 12, 13], [13])])
def impl_Motion_times.B1 : List Nat := [0, 1, 0, 4, 15, 0, 32, 0, 128, 511, 0, 1024, 4095, 8191, 16383]
theorem impl_Motion_times.tab1 : rtab .any (opsOf Tryz.f87 1) = impl_Motion_times.T1 := by kernel_rfl
theorem impl_Motion_times.bits1 : waitsOk impl_Motion_times.T1.2 impl_Motion_times.B1 = true := by kernel_rfl
set_option maxHeartbeats 8000000 in
set_option maxRecDepth 100000 in
theorem impl_Motion_times.calls (a0_0 : Int) (a0_1 : Int) (a0_2 : Int) (a0_3 : Int) (a0_4 : Int) (a0_5 : Int) (a1_0 : Int) (a1_1 : Int) (a1_2 : Int) (a1_3 : Int) (a1_4 : Int) (a1_5 : Int) (r1 : Int) (r2 : Int) (r3 : Int) (r4 : Int) (r5 : Int) (r6 : Int) (w : World) (h : impl_Motion_times.f a0_0 a0_1 a0_2 a0_3 a0_4 a0_5 a1_0 a1_1 a1_2 a1_3 a1_4 a1_5 = some (r1, r2, r3, r4, r5, r6)) :
  Calls Tryz.prog 87 #[.agg #[.int .i64 a0_0, .int .i64 a0_1, .int .i64 a0_2, .int .i64 a0_3, .int .i64 a0_4, .int .i64 a0_5], .agg #[.int .i64 a1_0, .int .i64 a1_1, .int .i64 a1_2, .int .i64 a1_3, .int .i64 a1_4, .int .i64 a1_5]] w fun e w' => e = .returned (.agg #[.int .i64 r1, .int .i64 r2, .int .i64 r3, .int .i64 r4, .int .i64 r5, .int .i64 r6]) ∧ Below w.heap.size w w' := by
 have hu29 := Tryz.underlying29
 have hu25 := Tryz.underlying25
 have hu27 := Tryz.underlying27
 have HB := asd (Below.refl w.heap.size w)
 have H : ((impl_Mat_times.f a0_0 a0_1 a0_2 a0_3 a1_0 a1_1 a1_2 a1_3).bind fun bt361 => ((impl_Mat_apply.f a0_0 a0_1 a0_2 a0_3 a1_4 a1_5).bind fun bt365 => ((impl_Vec_add.f bt365.1 bt365.2 a0_4 a0_5).bind fun bt367 => (some (bt361.1, bt361.2.1, bt361.2.2.1, bt361.2.2.2, bt367.1, bt367.2))))) = some (r1, r2, r3, r4, r5, r6) := h
 clear h
 obtain ⟨⟨t361, t362, t363, t364⟩, A3, H⟩ := ob H
 try dsimp only at H
 obtain ⟨⟨t365, t366⟩, A4, H⟩ := ob H
 try dsimp only at H
 obtain ⟨⟨t367, t368⟩, A5, H⟩ := ob H
 try dsimp only at H
 simp only [Option.some.injEq, Prod.mk.injEq] at H
 obtain ⟨rfl, rfl, rfl, rfl, rfl, rfl⟩ := H
 go_enter Tryz.func87, Tryz.ntmps87
 try go_wp2_with (first | ((with_reducible refine gd 2 rfl ?_); refine bx #[.int .i64 a0_0, .int .i64 a0_1, .int .i64 a0_2, .int .i64 a0_3, .int .i64 a0_4, .int .i64 a0_5] 29 ?_; intro gb358 hg w6 BK358 hb; have GE358 := ngw0 hg HB; replace HB := bS0 HB hb; clear hb hg) | ((with_reducible refine gd 3 rfl ?_); refine bx #[.int .i64 a1_0, .int .i64 a1_1, .int .i64 a1_2, .int .i64 a1_3, .int .i64 a1_4, .int .i64 a1_5] 29 ?_; intro gb359 hg w7 BK359 hb; have GE359 := ngw1 hg HB GE358; replace HB := bS1 HB GE358 hb; have NB358_359 := nlt hg BK358; have NB359_358 := nsy (nlt hg BK358); replace BK358 := bB BK358 hb; clear hb hg) | ((with_reducible refine gd 4 rfl ?_); refine bx #[.int .i64 0, .int .i64 0, .int .i64 0, .int .i64 0, .int .i64 0, .int .i64 0] 29 ?_; intro gb360 hg w8 BK360 hb; have GE360 := ngw2 hg HB GE358 GE359; replace HB := bS2 HB GE358 GE359 hb; have NB358_360 := nlt hg BK358; have NB360_358 := nsy (nlt hg BK358); replace BK358 := bB BK358 hb; have NB359_360 := nlt hg BK359; have NB360_359 := nsy (nlt hg BK359); replace BK359 := bB BK359 hb; clear hb hg))
 replace BK358 := asd (blk_drew BK358.out)
 replace BK359 := asd (blk_drew BK359.out)
 replace BK360 := asd (blk_drew BK360.out)
 replace HB := asd (below_drew1 HB.out)
 refine sh 15 (cb6 BK358 (eb6 BK359)) (fun hHeld => ?_); refine with_tabW impl_Motion_times.tab1 impl_Motion_times.bits1 (fun HT_ HW_ => ?_)
 generalize w8.drew = w9 at BK358 BK359 BK360 HB hHeld ⊢
 refine pu 0 (some 5) (bT 15 1) HT_ ?_
 refine pu 2 (some 7) (bs 15 5) HT_ ?_
 refine pu 5 (some 10) (bs 15 37) HT_ ?_
 refine pu 7 (some 12) (bs 15 165) HT_ ?_
 refine pu 10 (some 15) (bs 15 1189) HT_ ?_
 refine ta 1 (some 6) (bs 15 1191) HT_ HW_ hHeld ?_
 refine ta 3 (some 8) (bs 15 1199) HT_ HW_ hHeld ?_
 refine ta 6 (some 11) (bs 15 1263) HT_ HW_ hHeld ?_
 refine ta 8 (some 13) (bs 15 1519) HT_ HW_ hHeld ?_
 refine ta 11 (some 16) (bs 15 3567) HT_ HW_ hHeld ?_
 refine ro 4 (some 9) (bs 15 3583) HT_ (fun K hK => ?_)
 refine gs Tryz.func125 #[.agg #[.int .i64 a0_0, .int .i64 a0_1, .int .i64 a0_2, .int .i64 a0_3], .agg #[.int .i64 a1_0, .int .i64 a1_1, .int .i64 a1_2, .int .i64 a1_3]] ?_
 with_reducible refine (impl_Mat_times.calls _ _ _ _ _ _ _ _ _ _ _ _ _ A3.out).mono ?_
 rintro e w10 ⟨rfl, hb⟩
 refine ⟨_, rfl, ?_⟩
 replace BK358 := bB BK358 hb
 replace BK359 := bB BK359 hb
 replace BK360 := bB BK360 hb
 replace HB := bS3 HB GE358 GE359 GE360 hb
 (try clear hb)
 (try clear hb2)
 (try clear hk)
 (try clear hi)
 refine hK.out _ _ (cb6 BK358 (eb6 BK359)).out (fun hHeld => ?_)
 clear hK K
 refine norm_ (a' := ?_) ?_ ?_
 rotate_left
 ·show Act.put _ (some 9) _ = _
  simp only [Act.put, sA, sB, sC, i64_w, i32_w]
  rfl
 refine ro 9 (some 14) (bT 15 12) HT_ (fun K hK => ?_)
 refine gs Tryz.func67 #[.agg #[.int .i64 a0_0, .int .i64 a0_1, .int .i64 a0_2, .int .i64 a0_3], .agg #[.int .i64 a1_4, .int .i64 a1_5]] ?_
 with_reducible refine (impl_Mat_apply.calls _ _ _ _ _ _ _ _ _ A4.out).mono ?_
 rintro e w11 ⟨rfl, hb⟩
 refine ⟨_, rfl, ?_⟩
 replace BK358 := bB BK358 hb
 replace BK359 := bB BK359 hb
 replace BK360 := bB BK360 hb
 replace HB := bS3 HB GE358 GE359 GE360 hb
 (try clear hb)
 (try clear hb2)
 (try clear hk)
 (try clear hi)
 refine hK.out _ _ (cb6 BK358 (eb6 BK359)).out (fun hHeld => ?_)
 clear hK K
 refine norm_ (a' := ?_) ?_ ?_
 rotate_left
 ·show Act.put _ (some 14) _ = _
  simp only [Act.put, sA, sB, sC, i64_w, i32_w]
  rfl
 refine ro 12 (some 17) (bT 15 13) HT_ (fun K hK => ?_)
 refine gs Tryz.func126 #[.agg #[.int .i64 t365, .int .i64 t366], .agg #[.int .i64 a0_4, .int .i64 a0_5]] ?_
 with_reducible refine (impl_Vec_add.calls _ _ _ _ _ _ _ A5.out).mono ?_
 rintro e w12 ⟨rfl, hb⟩
 refine ⟨_, rfl, ?_⟩
 replace BK358 := bB BK358 hb
 replace BK359 := bB BK359 hb
 replace BK360 := bB BK360 hb
 replace HB := bS3 HB GE358 GE359 GE360 hb
 (try clear hb)
 (try clear hb2)
 (try clear hk)
 (try clear hi)
 refine hK.out _ _ (cb6 BK358 (eb6 BK359)).out (fun hHeld => ?_)
 clear hK K
 refine norm_ (a' := ?_) ?_ ?_
 rotate_left
 ·show Act.put _ (some 17) _ = _
  simp only [Act.put, sA, sB, sC, i64_w, i32_w]
  rfl
 refine pu 13 (some 18) (bT 15 14) HT_ ?_
 refine ro 14 (none) (bT 15 15) HT_ (fun K hK => ?_)
 have hs13 : w12.cell? ⟨gb360, 0, none⟩ = some (.int .i64 0) := bcl BK360 0
 have hfs13 := blk_frozen BK360.out 0
 have hns13_0 := NB358_360.out
 have hns13_1 := NB359_360.out
 have hms13_0 := NB360_358.out
 have hms13_1 := NB360_359.out
 have hs14 : w12.cell? ⟨gb360, 1, none⟩ = some (.int .i64 0) := bcl BK360 1
 have hfs14 := blk_frozen BK360.out 1
 have hns14_0 := NB358_360.out
 have hns14_1 := NB359_360.out
 have hms14_0 := NB360_358.out
 have hms14_1 := NB360_359.out
 have hs15 : w12.cell? ⟨gb360, 2, none⟩ = some (.int .i64 0) := bcl BK360 2
 have hfs15 := blk_frozen BK360.out 2
 have hns15_0 := NB358_360.out
 have hns15_1 := NB359_360.out
 have hms15_0 := NB360_358.out
 have hms15_1 := NB360_359.out
 have hs16 : w12.cell? ⟨gb360, 3, none⟩ = some (.int .i64 0) := bcl BK360 3
 have hfs16 := blk_frozen BK360.out 3
 have hns16_0 := NB358_360.out
 have hns16_1 := NB359_360.out
 have hms16_0 := NB360_358.out
 have hms16_1 := NB360_359.out
 have hs17 : w12.cell? ⟨gb360, 4, none⟩ = some (.int .i64 0) := bcl BK360 4
 have hfs17 := blk_frozen BK360.out 4
 have hns17_0 := NB358_360.out
 have hns17_1 := NB359_360.out
 have hms17_0 := NB360_358.out
 have hms17_1 := NB360_359.out
 have hs18 : w12.cell? ⟨gb360, 5, none⟩ = some (.int .i64 0) := bcl BK360 5
 have hfs18 := blk_frozen BK360.out 5
 have hns18_0 := NB358_360.out
 have hns18_1 := NB359_360.out
 have hms18_0 := NB360_358.out
 have hms18_1 := NB360_359.out
 refine skip_ (w1 := ?_) (by rfl) rfl ?_ ?_
 rotate_left
 ·go_simp
  rfl
 refine hK.out _ _ ⟨(cf6 NB358_360 (hHeld.1)), (cf6 NB358_360 (hHeld.2.1)), (cf6 NB358_360 (hHeld.2.2.1)), (cf6 NB358_360 (hHeld.2.2.2.1)), (cf6 NB358_360 (hHeld.2.2.2.2.1)), (cf6 NB358_360 (hHeld.2.2.2.2.2.1)), (cf6 NB359_360 (hHeld.2.2.2.2.2.2.1)), (cf6 NB359_360 (hHeld.2.2.2.2.2.2.2.1)), (cf6 NB359_360 (hHeld.2.2.2.2.2.2.2.2.1)), (cf6 NB359_360 (hHeld.2.2.2.2.2.2.2.2.2.1)), (cf6 NB359_360 (hHeld.2.2.2.2.2.2.2.2.2.2.1)), (cf6 NB359_360 (hHeld.2.2.2.2.2.2.2.2.2.2.2))⟩ (fun hHeld => ?_)
 clear hK K
 refine done_ (done_of HT_.out (by kernel_rfl)) ?_
 try go_wp2
 refine bodyPost_ret (results_cell_row rfl _ _ gb360 29 #[.int .i64 t361, .int .i64 t362, .int .i64 t363, .int .i64 t364, .int .i64 t367, .int .i64 t368] (0, 0) _ rfl (bq0 BK360) Tryz.underlying29 rfl (by kernel_rfl)) rfl ?_
 exact er (bbw3 HB GE358 GE359 GE360)

end Go.Proofs.YtnblfcibgokccaaGreatDoor.PC
