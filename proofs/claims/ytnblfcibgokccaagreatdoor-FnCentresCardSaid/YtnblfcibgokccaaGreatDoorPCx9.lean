/- Walks written by program: each Go function that the law reaches comes to the plain function beside it. -/
import Derived.Test.YtnblfcibgokccaaGreatDoorPCx0
import Derived.Test.YtnblfcibgokccaaGreatDoorPCx1
import Derived.Test.YtnblfcibgokccaaGreatDoorPCx2
import Derived.Test.YtnblfcibgokccaaGreatDoorPCx4
import Derived.Test.YtnblfcibgokccaaGreatDoorPCx5
import Derived.Test.YtnblfcibgokccaaGreatDoorPCx8
namespace Go.Proofs.YtnblfcibgokccaaGreatDoor.PC
open Go.RowKit Go.Proofs.YtnblfcibgokccaaGreatDoorW.PrintWords Go.Proofs.YtnblfcibgokccaaGreatDoorW.PrintLast Go.Proofs.YtnblfcibgokccaaGreatDoorW.PrintMore
attribute [local go_sem] max2_int min2_int max_two min_two max_three min_three max_four min_four   -- for this text's walks alone
set_option linter.unusedVariables false
set_option linter.unusedSimpArgs false

attribute [local go_sem high] eqA25
/-! ### spec_l02Order: function 100 -/
def spec_l02Order.l0 : Nat → Int → Int → Int → Int → Int → Int → Int → Int → Int → Option (Int)
 | 0, _, _, _, _, _, _, _, _, _ => none
 | k + 1, x4, x414000, x414001, x414002, x414003, x419000, x419001, x419002, x419003 => if x4 ≤ 6 then ((spec_l02Multiply.f x414000 x414001 x414002 x414003 x419000 x419001 x419002 x419003).bind fun bt419 => ((spec_l02Small.f bt419.1 bt419.2.1 bt419.2.2.1 bt419.2.2.2).bind fun t423 => (if t423 = true then ((spec_l02Unit.f).bind fun bt424 => (if (bt419.1 == bt424.1 && (bt419.2.1 == bt424.2.1 && (bt419.2.2.1 == bt424.2.2.1 && (bt419.2.2.2 == bt424.2.2.2)))) = true then (some x4) else (spec_l02Order.l0 k (wrap64 (x4 + 1)) x414000 x414001 x414002 x414003 bt419.1 bt419.2.1 bt419.2.2.1 bt419.2.2.2))) else (some 0)))) else (some 0)
def spec_l02Order.f (k : Nat) (a0_0 : Int) (a0_1 : Int) (a0_2 : Int) (a0_3 : Int) : Option (Int) := (spec_l02Unit.f).bind fun bt414 => (spec_l02Order.l0 k 1 a0_0 a0_1 a0_2 a0_3 bt414.1 bt414.2.1 bt414.2.2.1 bt414.2.2.2)
set_option maxHeartbeats 8000000 in
set_option maxRecDepth 100000 in
theorem spec_l02Order.calls (k : Nat) (a0_0 : Int) (a0_1 : Int) (a0_2 : Int) (a0_3 : Int) (r : Int) (w : World) (h : spec_l02Order.f k a0_0 a0_1 a0_2 a0_3 = some r) :
  Calls Tryz.prog 100 #[.agg #[.int .i64 a0_0, .int .i64 a0_1, .int .i64 a0_2, .int .i64 a0_3]] w fun e w' => e = .returned (.int .i64 r) ∧ Below w.heap.size w w' := by
 have hu25 := Tryz.underlying25
 have HB := asd (Below.refl w.heap.size w)
 have H : ((spec_l02Unit.f).bind fun bt414 => (spec_l02Order.l0 k 1 a0_0 a0_1 a0_2 a0_3 bt414.1 bt414.2.1 bt414.2.2.1 bt414.2.2.2)) = some r := h
 clear h
 obtain ⟨⟨t414, t415, t416, t417⟩, A2, H⟩ := ob H
 try dsimp only at H
 have H' := Aside0.mk H
 clear H
 go_enter Tryz.func100, Tryz.ntmps100
 go_wp2_with (first | ((with_reducible refine gd 1 rfl ?_); refine bx #[.int .i64 a0_0, .int .i64 a0_1, .int .i64 a0_2, .int .i64 a0_3] 25 ?_; intro gb413 hg w3 BK413 hb; have GE413 := ngw0 hg HB; replace HB := bS0 HB hb; clear hb hg) | ((with_reducible refine gate_callee (f := 81) rfl ?_); refine gl 5 Tryz.func81 #[] ?_; (with_reducible refine (spec_l02Unit.calls _ _ _ _ _ A2.out).mono ?_); rintro e w4 ⟨rfl, hb⟩; refine ⟨_, rfl, ?_⟩; replace BK413 := bB BK413 hb; replace HB := bS1 HB GE413 hb; (try clear hb)) | ((with_reducible refine gd 3 rfl ?_); refine bx #[.int .i64 0, .int .i64 0, .int .i64 0, .int .i64 0] 25 ?_; intro gb418 hg w5 BK418 hb; have GE418 := ngw1 hg HB GE413; replace HB := bS1 HB GE413 hb; have NB413_418 := nlt hg BK413; have NB418_413 := nsy (nlt hg BK413); replace BK413 := bB BK413 hb; clear hb hg; have hnb6 := NB418_413.out; have hnc6 := NB413_418.out; obtain ⟨hcz7_0, hcz7_1, hcz7_2, hcz7_3, hfz7_0, hfz7_1, hfz7_2, hfz7_3⟩ := bz4 BK418))
 go_loopg [4] k (fun kq v4 w' => ∃ (x4_1 : Int) (x419000_1 : Int) (x419001_1 : Int) (x419002_1 : Int) (x419003_1 : Int), v4 = .int .i64 x4_1 ∧ Aside0 (spec_l02Order.l0 kq x4_1 a0_0 a0_1 a0_2 a0_3 x419000_1 x419001_1 x419002_1 x419003_1 = some r) ∧ Aside0 (kq ≤ k) ∧ Aside0 (w'.heap[gb413]? = some (.cells #[.int .i64 a0_0, .int .i64 a0_1, .int .i64 a0_2, .int .i64 a0_3] 25 (0, 0))) ∧ Aside0 (w'.heap[gb418]? = some (.cells #[.int .i64 x419000_1, .int .i64 x419001_1, .int .i64 x419002_1, .int .i64 x419003_1] 25 (0, 0))) ∧ Aside0 (Below w.heap.size w w'))
 case atStart => exact ⟨(1), (t414), (t415), (t416), (t417), (by first | rfl | (simp; done) | (simp [*]; done)), H', ⟨Nat.le_refl _⟩, ⟨bq1 BK413 NB413_418⟩, ⟨bq0 BK418⟩, ⟨bbw2 HB GE413 GE418⟩⟩
 case round =>
  clear H'
  try clear c1
  try clear p2
  try clear c6
  try clear hcz7_0
  try clear hcz7_1
  try clear hcz7_2
  try clear hcz7_3
  try clear hfz7_0
  try clear hfz7_1
  try clear hfz7_2
  try clear hfz7_3
  obtain ⟨x4_1, x419000_1, x419001_1, x419002_1, x419003_1, rfl, HA, HK1, BK413, BK418, HB⟩ := hrel
  cases gk with
  | zero => exact absurd HA.out (by simp [spec_l02Order.l0])
  | succ k1 =>
   have H := HA.out
   clear HA
   simp only [spec_l02Order.l0] at H
   by_cases c8 : x4_1 ≤ 6
   rw [if_pos c8] at H
   have c8b0 := decide_eq_true c8
   clear c8
   obtain ⟨⟨t419, t420, t421, t422⟩, A9, H⟩ := ob H
   try dsimp only at H
   obtain ⟨t423, A10, H⟩ := ob H
   try dsimp only at H
   by_cases c11 : t423 = true
   subst c11
   replace H := ifT H
   obtain ⟨⟨t424, t425, t426, t427⟩, A12, H⟩ := ob H
   try dsimp only at H
   by_cases c13 : (t419 == t424 && (t420 == t425 && (t421 == t426 && (t422 == t427)))) = true
   rw [if_pos c13] at H
   have c13b0 := c13
   (try (have c13b1 : decide (t419 = t424 && (t420 == t425 && (t421 == t426 && (t422 == t427)))) = true := by simpa using c13))
   (try (have c13b2 : (t419 == t424 && (t420 == t425 && (t421 == t426 && (t422 == t427)))) = true := by simpa using c13))
   clear c13
   obtain rfl := Option.some.inj H
   rotate_left
   rw [if_neg c13] at H
   have c13b0 : (t419 == t424 && (t420 == t425 && (t421 == t426 && (t422 == t427)))) = false := by simpa using c13
   (try (have c13b1 : decide (t419 = t424 && (t420 == t425 && (t421 == t426 && (t422 == t427)))) = false := by simpa using c13))
   (try (have c13b2 : (t419 == t424 && (t420 == t425 && (t421 == t426 && (t422 == t427)))) = false := by simpa using c13))
   (try (have c13b3 : ¬ (t419 = t424 && (t420 == t425 && (t421 == t426 && (t422 == t427)))) := by simpa using c13))
   clear c13
   have H' := Aside0.mk H
   clear H
   rotate_left
   replace c11 := Bool.eq_false_iff.mpr c11
   subst c11
   replace H := ifF H
   obtain rfl := Option.some.inj H
   rotate_left
   rw [if_neg c8] at H
   have c8b0 := decide_eq_false c8
   clear c8
   obtain rfl := Option.some.inj H
   rotate_left
   rotate_left 3
   ·go_wp2
    go_ret
    exact er (bbw2 HB GE413 GE418)
   all_goals
    have hnb14 := NB413_418.out
    have hnc14 := NB418_413.out
    obtain ⟨hcz15_0, hcz15_1, hcz15_2, hcz15_3, hfz15_0, hfz15_1, hfz15_2, hfz15_3⟩ := bz4 BK413
    obtain ⟨hcz16_0, hcz16_1, hcz16_2, hcz16_3, hfz16_0, hfz16_1, hfz16_2, hfz16_3⟩ := bz4 BK418
   rotate_left 2
   ·go_wp2_with (first | ((with_reducible refine gate_callee (f := 51) rfl ?_); refine gl 12 Tryz.func51 #[.agg #[.int .i64 a0_0, .int .i64 a0_1, .int .i64 a0_2, .int .i64 a0_3], .agg #[.int .i64 x419000_1, .int .i64 x419001_1, .int .i64 x419002_1, .int .i64 x419003_1]] ?_; (with_reducible refine (spec_l02Multiply.calls _ _ _ _ _ _ _ _ _ _ _ _ _ A9.out).mono ?_); rintro e w33 ⟨rfl, hb⟩; refine ⟨_, rfl, ?_⟩; replace BK413 := bB BK413 hb; replace BK418 := bB BK418 hb; replace HB := bS2 HB GE413 GE418 hb; (try clear hb); obtain ⟨hcz34_0, hcz34_1, hcz34_2, hcz34_3, hfz34_0, hfz34_1, hfz34_2, hfz34_3⟩ := bz4 BK418) | ((with_reducible refine gate_callee (f := 99) rfl ?_); refine gl 14 Tryz.func99 #[.agg #[.int .i64 t419, .int .i64 t420, .int .i64 t421, .int .i64 t422]] ?_; (with_reducible refine (spec_l02Small.calls _ _ _ _ _ _ A10.out).mono ?_); rintro e w35 ⟨rfl, hb⟩; refine ⟨_, rfl, ?_⟩; replace BK413 := asd (blk_below (g := gb413) (o := .cells #[.int .i64 a0_0, .int .i64 a0_1, .int .i64 a0_2, .int .i64 a0_3] 25 (0, 0)) (bq1 BK413 NB413_418) hb); replace BK418 := asd (blk_below (g := gb418) (o := .cells #[.int .i64 t419, .int .i64 t420, .int .i64 t421, .int .i64 t422] 25 (0, 0)) (bq0 BK418) hb); replace HB := bS2 HB GE413 GE418 hb; (try clear hb)))
    go_ret
    exact er (bbw2 HB GE413 GE418)
   all_goals
    try go_wp2_with (first | ((with_reducible refine gate_callee (f := 51) rfl ?_); refine gl 12 Tryz.func51 #[.agg #[.int .i64 a0_0, .int .i64 a0_1, .int .i64 a0_2, .int .i64 a0_3], .agg #[.int .i64 x419000_1, .int .i64 x419001_1, .int .i64 x419002_1, .int .i64 x419003_1]] ?_; (with_reducible refine (spec_l02Multiply.calls _ _ _ _ _ _ _ _ _ _ _ _ _ A9.out).mono ?_); rintro e w17 ⟨rfl, hb⟩; refine ⟨_, rfl, ?_⟩; replace BK413 := bB BK413 hb; replace BK418 := bB BK418 hb; replace HB := bS2 HB GE413 GE418 hb; (try clear hb); obtain ⟨hcz18_0, hcz18_1, hcz18_2, hcz18_3, hfz18_0, hfz18_1, hfz18_2, hfz18_3⟩ := bz4 BK418) | ((with_reducible refine gate_callee (f := 99) rfl ?_); refine gl 14 Tryz.func99 #[.agg #[.int .i64 t419, .int .i64 t420, .int .i64 t421, .int .i64 t422]] ?_; (with_reducible refine (spec_l02Small.calls _ _ _ _ _ _ A10.out).mono ?_); rintro e w19 ⟨rfl, hb⟩; refine ⟨_, rfl, ?_⟩; replace BK413 := asd (blk_below (g := gb413) (o := .cells #[.int .i64 a0_0, .int .i64 a0_1, .int .i64 a0_2, .int .i64 a0_3] 25 (0, 0)) (bq1 BK413 NB413_418) hb); replace BK418 := asd (blk_below (g := gb418) (o := .cells #[.int .i64 t419, .int .i64 t420, .int .i64 t421, .int .i64 t422] 25 (0, 0)) (bq0 BK418) hb); replace HB := bS2 HB GE413 GE418 hb; (try clear hb)))
    replace BK413 := asd (blk_drew BK413.out)
    replace BK418 := asd (blk_drew BK418.out)
    replace HB := asd (below_drew1 HB.out)
    refine sh 3 (eb4 BK418) (fun hHeld => ?_)
    generalize w19.drew = w20 at BK413 BK418 HB hHeld ⊢
    refine take_ (i := 0) (N := some 16) (v := ?_) (a' := ?_) (bT 3 1) rfl rfl (by kernel_rfl) (fun _ _ _ h => h) (Or.inl ⟨by rfl, ?_⟩) hHeld ?_ ?_
    rotate_left
    ·rintro w' ⟨s0, s1, s2, s3⟩
     go_simp
     with_reducible rfl
    rotate_left
    ·simp only [Act.put, sA, sB, sC, i64_w, i32_w]
     rfl
    refine one_ (i := 1) (N := some 17) (bT 3 2) rfl rfl (by kernel_rfl) (by decide) (fun K hK => ?_)
    refine gs Tryz.func81 #[] ?_
    with_reducible refine (spec_l02Unit.calls _ _ _ _ _ A12.out).mono ?_
    rintro e w21 ⟨rfl, hb⟩
    refine ⟨_, rfl, ?_⟩
    replace BK413 := bB BK413 hb
    replace BK418 := bB BK418 hb
    replace HB := bS2 HB GE413 GE418 hb
    (try clear hb)
    (try clear hb2)
    (try clear hk)
    (try clear hi)
    refine hK.out _ _ (eb4 BK418).out (fun hHeld => ?_)
    clear hK K
    refine norm_ (a' := ?_) ?_ ?_
    rotate_left
    ·show Act.put _ (some 17) _ = _
     simp only [Act.put, sA, sB, sC, i64_w, i32_w]
     rfl
    refine pure_ (i := 2) (N := some 18) (v := ?_) (a' := ?_) (bT 3 3) rfl rfl (by kernel_rfl) (fun _ _ _ h => h) (Or.inl ⟨by rfl, ?_⟩) ?_ ?_
    rotate_left
    ·intro w'
     go_simp
     with_reducible rfl
    rotate_left
    ·simp only [Act.put, sA, sB, sC, i64_w, i32_w]
     rfl
    refine done_ (by kernel_rfl) ?_
    try go_wp2
   ·go_ret
    exact er (bbw2 HB GE413 GE418)
   ·go_roundg k1
    case measure => have := HK1.out; omega
    case rel => exact ⟨(wrap64 (x4_1 + 1)), (t419), (t420), (t421), (t422), (by first | rfl | (simp; done) | (simp [*]; done)), H', ⟨by have := HK1.out; omega⟩, ⟨bkp BK413⟩, ⟨bkp BK418⟩, ⟨bbw2 HB GE413 GE418⟩⟩
/-! ### spec_l02Kind: function 59 -/
def spec_l02Kind.f (k : Nat) (a0_0 : Int) (a0_1 : Int) (a0_2 : Int) (a0_3 : Int) : Option (Int) := (spec_l02Det.f a0_0 a0_1 a0_2 a0_3).bind fun t429 => (if t429 = 1 then ((spec_l02Order.f k a0_0 a0_1 a0_2 a0_3).bind fun t430 => (some t430)) else ((spec_l02Order.f k a0_0 a0_1 a0_2 a0_3).bind fun t431 => (if t431 = 2 then (some (-2)) else (some 0))))
set_option maxHeartbeats 8000000 in
set_option maxRecDepth 100000 in
theorem spec_l02Kind.calls (k : Nat) (a0_0 : Int) (a0_1 : Int) (a0_2 : Int) (a0_3 : Int) (r : Int) (w : World) (h : spec_l02Kind.f k a0_0 a0_1 a0_2 a0_3 = some r) :
  Calls Tryz.prog 59 #[.agg #[.int .i64 a0_0, .int .i64 a0_1, .int .i64 a0_2, .int .i64 a0_3]] w fun e w' => e = .returned (.int .i64 r) ∧ Below w.heap.size w w' := by
 have hu25 := Tryz.underlying25
 have HB := asd (Below.refl w.heap.size w)
 have H : ((spec_l02Det.f a0_0 a0_1 a0_2 a0_3).bind fun t429 => (if t429 = 1 then ((spec_l02Order.f k a0_0 a0_1 a0_2 a0_3).bind fun t430 => (some t430)) else ((spec_l02Order.f k a0_0 a0_1 a0_2 a0_3).bind fun t431 => (if t431 = 2 then (some (-2)) else (some 0))))) = some r := h
 clear h
 obtain ⟨t429, A2, H⟩ := ob H
 try dsimp only at H
 by_cases c3 : t429 = 1
 rw [if_pos c3] at H
 have c3b0 : (t429 == 1) = true := beq_iff_eq.mpr c3
 have c3b1 : (t429 != 1) = false := bne_eq_false_iff_eq.mpr c3
 clear c3
 obtain ⟨t430, A4, H⟩ := ob H
 try dsimp only at H
 obtain rfl := Option.some.inj H
 rotate_left
 rw [if_neg c3] at H
 have c3b0 : (t429 == 1) = false := beq_eq_false_iff_ne.mpr c3
 have c3b1 : (t429 != 1) = true := bne_iff_ne.mpr c3
 obtain ⟨t431, A10, H⟩ := ob H
 try dsimp only at H
 by_cases c11 : t431 = 2
 rw [if_pos c11] at H
 have c11b0 : (t431 == 2) = true := beq_iff_eq.mpr c11
 have c11b1 : (t431 != 2) = false := bne_eq_false_iff_eq.mpr c11
 clear c11
 obtain rfl := Option.some.inj H
 rotate_left
 rw [if_neg c11] at H
 have c11b0 : (t431 == 2) = false := beq_eq_false_iff_ne.mpr c11
 have c11b1 : (t431 != 2) = true := bne_iff_ne.mpr c11
 obtain rfl := Option.some.inj H
 rotate_left
 all_goals
  go_enter Tryz.func59, Tryz.ntmps59
  go_wp2_with (first | ((with_reducible refine gd 1 rfl ?_); refine bx #[.int .i64 a0_0, .int .i64 a0_1, .int .i64 a0_2, .int .i64 a0_3] 25 ?_; intro gb428 hg w5 BK428 hb; have GE428 := ngw0 hg HB; replace HB := bS0 HB hb; clear hb hg; obtain ⟨hcz6_0, hcz6_1, hcz6_2, hcz6_3, hfz6_0, hfz6_1, hfz6_2, hfz6_3⟩ := bz4 BK428) | ((with_reducible refine gate_callee (f := 89) rfl ?_); refine gl 5 Tryz.func89 #[.agg #[.int .i64 a0_0, .int .i64 a0_1, .int .i64 a0_2, .int .i64 a0_3]] ?_; (with_reducible refine (spec_l02Det.calls _ _ _ _ _ _ A2.out).mono ?_); rintro e w7 ⟨rfl, hb⟩; refine ⟨_, rfl, ?_⟩; replace BK428 := bB BK428 hb; replace HB := bS1 HB GE428 hb; (try clear hb); obtain ⟨hcz8_0, hcz8_1, hcz8_2, hcz8_3, hfz8_0, hfz8_1, hfz8_2, hfz8_3⟩ := bz4 BK428) | ((with_reducible refine gate_callee (f := 100) rfl ?_); refine gl 8 Tryz.func100 #[.agg #[.int .i64 a0_0, .int .i64 a0_1, .int .i64 a0_2, .int .i64 a0_3]] ?_; (with_reducible refine (spec_l02Order.calls _ _ _ _ _ _ _ A4.out).mono ?_); rintro e w9 ⟨rfl, hb⟩; refine ⟨_, rfl, ?_⟩; replace BK428 := bB BK428 hb; replace HB := bS1 HB GE428 hb; (try clear hb)) | ((with_reducible refine gate_callee (f := 100) rfl ?_); refine gl 11 Tryz.func100 #[.agg #[.int .i64 a0_0, .int .i64 a0_1, .int .i64 a0_2, .int .i64 a0_3]] ?_; (with_reducible refine (spec_l02Order.calls _ _ _ _ _ _ _ A10.out).mono ?_); rintro e w16 ⟨rfl, hb⟩; refine ⟨_, rfl, ?_⟩; replace BK428 := bB BK428 hb; replace HB := bS1 HB GE428 hb; (try clear hb)))
  go_ret
  exact er (bbw1 HB GE428)

attribute [local go_sem high] eqA25 eqA27
/-! ### spec_IsMotion: function 38 -/
def spec_IsMotion.f (k : Nat) (a0_0 : Int) (a0_1 : Int) (a0_2 : Int) (a0_3 : Int) (a0_4 : Int) (a0_5 : Int) : Option (Bool) := (spec_IsMat.f a0_0 a0_1 a0_2 a0_3).bind fun t433 => (if t433 = true then ((spec_l02Kind.f k a0_0 a0_1 a0_2 a0_3).bind fun t434 => (if t434 = 0 then (some false) else ((spec_IsVec.f a0_4 a0_5).bind fun t435 => (some t435)))) else (some false))
set_option maxHeartbeats 8000000 in
set_option maxRecDepth 100000 in
theorem spec_IsMotion.calls (k : Nat) (a0_0 : Int) (a0_1 : Int) (a0_2 : Int) (a0_3 : Int) (a0_4 : Int) (a0_5 : Int) (r : Bool) (w : World) (h : spec_IsMotion.f k a0_0 a0_1 a0_2 a0_3 a0_4 a0_5 = some r) :
  Calls Tryz.prog 38 #[.agg #[.int .i64 a0_0, .int .i64 a0_1, .int .i64 a0_2, .int .i64 a0_3, .int .i64 a0_4, .int .i64 a0_5]] w fun e w' => e = .returned (.bool r) ∧ Below w.heap.size w w' := by
 have hu29 := Tryz.underlying29
 have hu25 := Tryz.underlying25
 have hu27 := Tryz.underlying27
 have HB := asd (Below.refl w.heap.size w)
 have H : ((spec_IsMat.f a0_0 a0_1 a0_2 a0_3).bind fun t433 => (if t433 = true then ((spec_l02Kind.f k a0_0 a0_1 a0_2 a0_3).bind fun t434 => (if t434 = 0 then (some false) else ((spec_IsVec.f a0_4 a0_5).bind fun t435 => (some t435)))) else (some false))) = some r := h
 clear h
 obtain ⟨t433, A2, H⟩ := ob H
 try dsimp only at H
 by_cases c3 : t433 = true
 ·subst c3
  replace H := ifT H
  obtain ⟨t434, A4, H⟩ := ob H
  try dsimp only at H
  by_cases c5 : t434 = 0
  ·rw [if_pos c5] at H
   have c5b0 : (t434 == 0) = true := beq_iff_eq.mpr c5
   have c5b1 : (t434 != 0) = false := bne_eq_false_iff_eq.mpr c5
   clear c5
   obtain rfl := Option.some.inj H
   go_enter Tryz.func38, Tryz.ntmps38
   go_wp2_with (first | ((with_reducible refine gd 1 rfl ?_); refine bx #[.int .i64 a0_0, .int .i64 a0_1, .int .i64 a0_2, .int .i64 a0_3, .int .i64 a0_4, .int .i64 a0_5] 29 ?_; intro gb432 hg w6 BK432 hb; have GE432 := ngw0 hg HB; replace HB := bS0 HB hb; clear hb hg; obtain ⟨hcz7_0, hcz7_1, hcz7_2, hcz7_3, hcz7_4, hcz7_5, hfz7_0, hfz7_1, hfz7_2, hfz7_3, hfz7_4, hfz7_5⟩ := bz6 BK432) | ((with_reducible refine gate_callee (f := 58) rfl ?_); refine gl 5 Tryz.func58 #[.agg #[.int .i64 a0_0, .int .i64 a0_1, .int .i64 a0_2, .int .i64 a0_3]] ?_; (with_reducible refine (spec_IsMat.calls _ _ _ _ _ _ A2.out).mono ?_); rintro e w8 ⟨rfl, hb⟩; refine ⟨_, rfl, ?_⟩; replace BK432 := bB BK432 hb; replace HB := bS1 HB GE432 hb; (try clear hb); obtain ⟨hcz9_0, hcz9_1, hcz9_2, hcz9_3, hcz9_4, hcz9_5, hfz9_0, hfz9_1, hfz9_2, hfz9_3, hfz9_4, hfz9_5⟩ := bz6 BK432) | (go_at_call 59; (with_reducible refine (spec_l02Kind.calls _ _ _ _ _ _ _ A4.out).mono ?_); rintro e w10 ⟨rfl, hb⟩; replace BK432 := bB BK432 hb; replace HB := bS1 HB GE432 hb; (try clear hb)))
   go_ret
   exact er (bbw1 HB GE432)
  ·rw [if_neg c5] at H
   have c5b0 : (t434 == 0) = false := beq_eq_false_iff_ne.mpr c5
   have c5b1 : (t434 != 0) = true := bne_iff_ne.mpr c5
   obtain ⟨t435, A11, H⟩ := ob H
   try dsimp only at H
   obtain rfl := Option.some.inj H
   go_enter Tryz.func38, Tryz.ntmps38
   go_wp2_with (first | ((with_reducible refine gd 1 rfl ?_); refine bx #[.int .i64 a0_0, .int .i64 a0_1, .int .i64 a0_2, .int .i64 a0_3, .int .i64 a0_4, .int .i64 a0_5] 29 ?_; intro gb432 hg w12 BK432 hb; have GE432 := ngw0 hg HB; replace HB := bS0 HB hb; clear hb hg; obtain ⟨hcz13_0, hcz13_1, hcz13_2, hcz13_3, hcz13_4, hcz13_5, hfz13_0, hfz13_1, hfz13_2, hfz13_3, hfz13_4, hfz13_5⟩ := bz6 BK432) | ((with_reducible refine gate_callee (f := 58) rfl ?_); refine gl 5 Tryz.func58 #[.agg #[.int .i64 a0_0, .int .i64 a0_1, .int .i64 a0_2, .int .i64 a0_3]] ?_; (with_reducible refine (spec_IsMat.calls _ _ _ _ _ _ A2.out).mono ?_); rintro e w14 ⟨rfl, hb⟩; refine ⟨_, rfl, ?_⟩; replace BK432 := bB BK432 hb; replace HB := bS1 HB GE432 hb; (try clear hb); obtain ⟨hcz15_0, hcz15_1, hcz15_2, hcz15_3, hcz15_4, hcz15_5, hfz15_0, hfz15_1, hfz15_2, hfz15_3, hfz15_4, hfz15_5⟩ := bz6 BK432) | (go_at_call 59; (with_reducible refine (spec_l02Kind.calls _ _ _ _ _ _ _ A4.out).mono ?_); rintro e w16 ⟨rfl, hb⟩; replace BK432 := bB BK432 hb; replace HB := bS1 HB GE432 hb; (try clear hb); obtain ⟨hcz17_0, hcz17_1, hcz17_2, hcz17_3, hcz17_4, hcz17_5, hfz17_0, hfz17_1, hfz17_2, hfz17_3, hfz17_4, hfz17_5⟩ := bz6 BK432) | (go_at_call 41; (with_reducible refine (spec_IsVec.calls _ _ _ _ A11.out).mono ?_); rintro e w18 ⟨rfl, hb⟩; replace BK432 := bB BK432 hb; replace HB := bS1 HB GE432 hb; (try clear hb)))
   go_ret
   exact er (bbw1 HB GE432)
 ·replace c3 := Bool.eq_false_iff.mpr c3
  subst c3
  replace H := ifF H
  obtain rfl := Option.some.inj H
  go_enter Tryz.func38, Tryz.ntmps38
  go_wp2_with (first | ((with_reducible refine gd 1 rfl ?_); refine bx #[.int .i64 a0_0, .int .i64 a0_1, .int .i64 a0_2, .int .i64 a0_3, .int .i64 a0_4, .int .i64 a0_5] 29 ?_; intro gb432 hg w19 BK432 hb; have GE432 := ngw0 hg HB; replace HB := bS0 HB hb; clear hb hg; obtain ⟨hcz20_0, hcz20_1, hcz20_2, hcz20_3, hcz20_4, hcz20_5, hfz20_0, hfz20_1, hfz20_2, hfz20_3, hfz20_4, hfz20_5⟩ := bz6 BK432) | ((with_reducible refine gate_callee (f := 58) rfl ?_); refine gl 5 Tryz.func58 #[.agg #[.int .i64 a0_0, .int .i64 a0_1, .int .i64 a0_2, .int .i64 a0_3]] ?_; (with_reducible refine (spec_IsMat.calls _ _ _ _ _ _ A2.out).mono ?_); rintro e w21 ⟨rfl, hb⟩; refine ⟨_, rfl, ?_⟩; replace BK432 := bB BK432 hb; replace HB := bS1 HB GE432 hb; (try clear hb)))
  go_ret
  exact er (bbw1 HB GE432)
/-! ### spec_l02Apply: function 128 -/
def spec_l02Apply.f (a0_0 : Int) (a0_1 : Int) (a0_2 : Int) (a0_3 : Int) (a1_0 : Int) (a1_1 : Int) : Option (Int × Int) := some (wrap64 ((wrap64 (a0_0 * a1_0)) + (wrap64 (a0_1 * a1_1))), wrap64 ((wrap64 (a0_2 * a1_0)) + (wrap64 (a0_3 * a1_1))))
set_option maxHeartbeats 8000000 in
set_option maxRecDepth 100000 in
theorem spec_l02Apply.calls (a0_0 : Int) (a0_1 : Int) (a0_2 : Int) (a0_3 : Int) (a1_0 : Int) (a1_1 : Int) (r1 : Int) (r2 : Int) (w : World) (h : spec_l02Apply.f a0_0 a0_1 a0_2 a0_3 a1_0 a1_1 = some (r1, r2)) :
  Calls Tryz.prog 128 #[.agg #[.int .i64 a0_0, .int .i64 a0_1, .int .i64 a0_2, .int .i64 a0_3], .agg #[.int .i64 a1_0, .int .i64 a1_1]] w fun e w' => e = .returned (.agg #[.int .i64 r1, .int .i64 r2]) ∧ Below w.heap.size w w' := by
 have hu25 := Tryz.underlying25
 have hu27 := Tryz.underlying27
 have HB := asd (Below.refl w.heap.size w)
 have H : (some (wrap64 ((wrap64 (a0_0 * a1_0)) + (wrap64 (a0_1 * a1_1))), wrap64 ((wrap64 (a0_2 * a1_0)) + (wrap64 (a0_3 * a1_1))))) = some (r1, r2) := h
 clear h
 simp only [Option.some.injEq, Prod.mk.injEq] at H
 obtain ⟨rfl, rfl⟩ := H
 go_enter Tryz.func128, Tryz.ntmps128
 go_wp2_with (first | ((with_reducible refine gd 2 rfl ?_); refine bx #[.int .i64 a0_0, .int .i64 a0_1, .int .i64 a0_2, .int .i64 a0_3] 25 ?_; intro gb436 hg w3 BK436 hb; have GE436 := ngw0 hg HB; replace HB := bS0 HB hb; clear hb hg) | ((with_reducible refine gd 3 rfl ?_); refine bx #[.int .i64 a1_0, .int .i64 a1_1] 27 ?_; intro gb437 hg w4 BK437 hb; have GE437 := ngw1 hg HB GE436; replace HB := bS1 HB GE436 hb; have NB436_437 := nlt hg BK436; have NB437_436 := nsy (nlt hg BK436); replace BK436 := bB BK436 hb; clear hb hg) | ((with_reducible refine gd 4 rfl ?_); refine bx #[.int .i64 0, .int .i64 0] 27 ?_; intro gb438 hg w5 BK438 hb; have GE438 := ngw2 hg HB GE436 GE437; replace HB := bS2 HB GE436 GE437 hb; have NB436_438 := nlt hg BK436; have NB438_436 := nsy (nlt hg BK436); replace BK436 := bB BK436 hb; have NB437_438 := nlt hg BK437; have NB438_437 := nsy (nlt hg BK437); replace BK437 := bB BK437 hb; clear hb hg; have hnb6 := NB436_437.out; have hnc6 := NB437_436.out; have hnb7 := NB436_438.out; have hnc7 := NB438_436.out; obtain ⟨hcz8_0, hcz8_1, hcz8_2, hcz8_3, hfz8_0, hfz8_1, hfz8_2, hfz8_3⟩ := bz4 BK436; have hnb9 := NB437_438.out; have hnc9 := NB438_437.out; obtain ⟨hcz10_0, hcz10_1, hfz10_0, hfz10_1⟩ := bz2 BK437; obtain ⟨hcz11_0, hcz11_1, hfz11_0, hfz11_1⟩ := bz2 BK438))
 refine bodyPost_ret (results_cell_row rfl _ _ gb438 27 #[.int .i64 (wrap64 ((wrap64 (a0_0 * a1_0)) + (wrap64 (a0_1 * a1_1)))), .int .i64 (wrap64 ((wrap64 (a0_2 * a1_0)) + (wrap64 (a0_3 * a1_1))))] (0, 0) _ rfl (bq0 BK438) Tryz.underlying27 rfl (by kernel_rfl)) rfl ?_
 exact er (bbw3 HB GE436 GE437 GE438)
/-! ### spec_l05Twice: function 90 -/
def spec_l05Twice.f (a0_0 : Int) (a0_1 : Int) (a0_2 : Int) (a0_3 : Int) (a0_4 : Int) (a0_5 : Int) : Option (Int × Int) := (spec_l02Apply.f a0_0 a0_1 a0_2 a0_3 a0_4 a0_5).bind fun bt441 => ((spec_l01Add.f bt441.1 bt441.2 a0_4 a0_5).bind fun bt443 => (some (bt443.1, bt443.2)))
def spec_l05Twice.T1 : Bool × List (List Nat × List Nat) := (true, [([], []), ([0], [0]), ([], []), ([2], [2]), ([1, 3], [1, 3]), ([], []), ([5], [5]), ([4, 6, 4], [4, 6]), ([7, 7, 0, 1, 2, 3, 4, 5, 6, 7], [7])])
def spec_l05Twice.B1 : List Nat := [0, 1, 0, 4, 15, 0, 32, 127, 255]
theorem spec_l05Twice.tab1 : rtab .any (opsOf Tryz.f90 1) = spec_l05Twice.T1 := by kernel_rfl
theorem spec_l05Twice.bits1 : waitsOk spec_l05Twice.T1.2 spec_l05Twice.B1 = true := by kernel_rfl
set_option maxHeartbeats 8000000 in
set_option maxRecDepth 100000 in
theorem spec_l05Twice.calls (a0_0 : Int) (a0_1 : Int) (a0_2 : Int) (a0_3 : Int) (a0_4 : Int) (a0_5 : Int) (r1 : Int) (r2 : Int) (w : World) (h : spec_l05Twice.f a0_0 a0_1 a0_2 a0_3 a0_4 a0_5 = some (r1, r2)) :
  Calls Tryz.prog 90 #[.agg #[.int .i64 a0_0, .int .i64 a0_1, .int .i64 a0_2, .int .i64 a0_3, .int .i64 a0_4, .int .i64 a0_5]] w fun e w' => e = .returned (.agg #[.int .i64 r1, .int .i64 r2]) ∧ Below w.heap.size w w' := by
 have hu29 := Tryz.underlying29
 have hu27 := Tryz.underlying27
 have hu25 := Tryz.underlying25
 have HB := asd (Below.refl w.heap.size w)
 have H : ((spec_l02Apply.f a0_0 a0_1 a0_2 a0_3 a0_4 a0_5).bind fun bt441 => ((spec_l01Add.f bt441.1 bt441.2 a0_4 a0_5).bind fun bt443 => (some (bt443.1, bt443.2)))) = some (r1, r2) := h
 clear h
 obtain ⟨⟨t441, t442⟩, A2, H⟩ := ob H
 try dsimp only at H
 obtain ⟨⟨t443, t444⟩, A3, H⟩ := ob H
 try dsimp only at H
 simp only [Option.some.injEq, Prod.mk.injEq] at H
 obtain ⟨rfl, rfl⟩ := H
 go_enter Tryz.func90, Tryz.ntmps90
 try go_wp2_with (first | ((with_reducible refine gd 1 rfl ?_); refine bx #[.int .i64 a0_0, .int .i64 a0_1, .int .i64 a0_2, .int .i64 a0_3, .int .i64 a0_4, .int .i64 a0_5] 29 ?_; intro gb439 hg w4 BK439 hb; have GE439 := ngw0 hg HB; replace HB := bS0 HB hb; clear hb hg) | ((with_reducible refine gd 2 rfl ?_); refine bx #[.int .i64 0, .int .i64 0] 27 ?_; intro gb440 hg w5 BK440 hb; have GE440 := ngw1 hg HB GE439; replace HB := bS1 HB GE439 hb; have NB439_440 := nlt hg BK439; have NB440_439 := nsy (nlt hg BK439); replace BK439 := bB BK439 hb; clear hb hg))
 replace BK439 := asd (blk_drew BK439.out)
 replace BK440 := asd (blk_drew BK440.out)
 replace HB := asd (below_drew1 HB.out)
 refine sh 9 (eb6 BK439) (fun hHeld => ?_); refine with_tabW spec_l05Twice.tab1 spec_l05Twice.bits1 (fun HT_ HW_ => ?_)
 generalize w5.drew = w6 at BK439 BK440 HB hHeld ⊢
 refine pu 0 (some 3) (bT 9 1) HT_ ?_
 refine pu 2 (some 5) (bs 9 5) HT_ ?_
 refine pu 5 (some 8) (bs 9 37) HT_ ?_
 refine ta 1 (some 4) (bs 9 39) HT_ HW_ hHeld ?_
 refine ta 3 (some 6) (bs 9 47) HT_ HW_ hHeld ?_
 refine ta 6 (some 9) (bs 9 111) HT_ HW_ hHeld ?_
 refine ro 4 (some 7) (bT 9 7) HT_ (fun K hK => ?_)
 refine gs Tryz.func128 #[.agg #[.int .i64 a0_0, .int .i64 a0_1, .int .i64 a0_2, .int .i64 a0_3], .agg #[.int .i64 a0_4, .int .i64 a0_5]] ?_
 with_reducible refine (spec_l02Apply.calls _ _ _ _ _ _ _ _ _ A2.out).mono ?_
 rintro e w7 ⟨rfl, hb⟩
 refine ⟨_, rfl, ?_⟩
 replace BK439 := bB BK439 hb
 replace BK440 := bB BK440 hb
 replace HB := bS2 HB GE439 GE440 hb
 (try clear hb)
 (try clear hb2)
 (try clear hk)
 (try clear hi)
 refine hK.out _ _ (eb6 BK439).out (fun hHeld => ?_)
 clear hK K
 refine norm_ (a' := ?_) ?_ ?_
 rotate_left
 ·show Act.put _ (some 7) _ = _
  simp only [Act.put, sA, sB, sC, i64_w, i32_w]
  rfl
 refine ro 7 (some 10) (bT 9 8) HT_ (fun K hK => ?_)
 refine gs Tryz.func127 #[.agg #[.int .i64 t441, .int .i64 t442], .agg #[.int .i64 a0_4, .int .i64 a0_5]] ?_
 with_reducible refine (spec_l01Add.calls _ _ _ _ _ _ _ A3.out).mono ?_
 rintro e w8 ⟨rfl, hb⟩
 refine ⟨_, rfl, ?_⟩
 replace BK439 := bB BK439 hb
 replace BK440 := bB BK440 hb
 replace HB := bS2 HB GE439 GE440 hb
 (try clear hb)
 (try clear hb2)
 (try clear hk)
 (try clear hi)
 refine hK.out _ _ (eb6 BK439).out (fun hHeld => ?_)
 clear hK K
 refine norm_ (a' := ?_) ?_ ?_
 rotate_left
 ·show Act.put _ (some 10) _ = _
  simp only [Act.put, sA, sB, sC, i64_w, i32_w]
  rfl
 refine ro 8 (none) (bT 9 9) HT_ (fun K hK => ?_)
 have hs9 : w8.cell? ⟨gb440, 0, none⟩ = some (.int .i64 0) := bcl BK440 0
 have hfs9 := blk_frozen BK440.out 0
 have hns9_0 := NB439_440.out
 have hms9_0 := NB440_439.out
 have hs10 : w8.cell? ⟨gb440, 1, none⟩ = some (.int .i64 0) := bcl BK440 1
 have hfs10 := blk_frozen BK440.out 1
 have hns10_0 := NB439_440.out
 have hms10_0 := NB440_439.out
 refine skip_ (w1 := ?_) (by rfl) rfl ?_ ?_
 rotate_left
 ·go_simp
  rfl
 refine hK.out _ _ ⟨(cf2 NB439_440 (hHeld.1)), (cf2 NB439_440 (hHeld.2.1)), (cf2 NB439_440 (hHeld.2.2.1)), (cf2 NB439_440 (hHeld.2.2.2.1)), (cf2 NB439_440 (hHeld.2.2.2.2.1)), (cf2 NB439_440 (hHeld.2.2.2.2.2))⟩ (fun hHeld => ?_)
 clear hK K
 refine done_ (done_of HT_.out (by kernel_rfl)) ?_
 try go_wp2
 refine bodyPost_ret (results_cell_row rfl _ _ gb440 27 #[.int .i64 t443, .int .i64 t444] (0, 0) _ rfl (bq0 BK440) Tryz.underlying27 rfl (by kernel_rfl)) rfl ?_
 exact er (bbw2 HB GE439 GE440)
/-! ### spec_l05Kind: function 39 -/
def spec_l05Kind.j0 : Nat → Bool → Int → Int → Int → Int → Int → Int → Option (Int)
 | 0, _, _, _, _, _, _, _ => none
 | k + 1, x3, x446000, x446001, x446002, x446003, x446004, x446005 => if x3 = true then (some 3) else ((spec_l02Det.f x446000 x446001 x446002 x446003).bind fun t449 => (if t449 = (-1) then (some 4) else ((spec_l02Unit.f).bind fun bt450 => (if (!(x446000 == bt450.1) || (!(x446001 == bt450.2.1) || (!(x446002 == bt450.2.2.1) || (!(x446003 == bt450.2.2.2))))) = true then (some 2) else (if (!(x446004 == 0) || (!(x446005 == 0))) = true then (some 1) else (some 0))))))
def spec_l05Kind.f (k : Nat) (a0_0 : Int) (a0_1 : Int) (a0_2 : Int) (a0_3 : Int) (a0_4 : Int) (a0_5 : Int) : Option (Int) := (spec_l02Det.f a0_0 a0_1 a0_2 a0_3).bind fun t446 => (if t446 = (-1) then ((spec_l05Twice.f a0_0 a0_1 a0_2 a0_3 a0_4 a0_5).bind fun bt447 => (spec_l05Kind.j0 k (bt447.1 == 0 && (bt447.2 == 0)) a0_0 a0_1 a0_2 a0_3 a0_4 a0_5)) else (spec_l05Kind.j0 k false a0_0 a0_1 a0_2 a0_3 a0_4 a0_5))
set_option maxHeartbeats 8000000 in
set_option maxRecDepth 100000 in
theorem spec_l05Kind.calls (k : Nat) (a0_0 : Int) (a0_1 : Int) (a0_2 : Int) (a0_3 : Int) (a0_4 : Int) (a0_5 : Int) (r : Int) (w : World) (h : spec_l05Kind.f k a0_0 a0_1 a0_2 a0_3 a0_4 a0_5 = some r) :
  Calls Tryz.prog 39 #[.agg #[.int .i64 a0_0, .int .i64 a0_1, .int .i64 a0_2, .int .i64 a0_3, .int .i64 a0_4, .int .i64 a0_5]] w fun e w' => e = .returned (.int .i64 r) ∧ Below w.heap.size w w' := by
 have hu29 := Tryz.underlying29
 have hu25 := Tryz.underlying25
 have hu27 := Tryz.underlying27
 have HB := asd (Below.refl w.heap.size w)
 have H : ((spec_l02Det.f a0_0 a0_1 a0_2 a0_3).bind fun t446 => (if t446 = (-1) then ((spec_l05Twice.f a0_0 a0_1 a0_2 a0_3 a0_4 a0_5).bind fun bt447 => (spec_l05Kind.j0 k (bt447.1 == 0 && (bt447.2 == 0)) a0_0 a0_1 a0_2 a0_3 a0_4 a0_5)) else (spec_l05Kind.j0 k false a0_0 a0_1 a0_2 a0_3 a0_4 a0_5))) = some r := h
 clear h
 have HC2 := Aside0.mk H
 clear H
 go_enter Tryz.func39, Tryz.ntmps39
 go_upto_region 1 with (first | ((with_reducible refine gd 1 rfl ?_); refine bx #[.int .i64 a0_0, .int .i64 a0_1, .int .i64 a0_2, .int .i64 a0_3, .int .i64 a0_4, .int .i64 a0_5] 29 ?_; intro gb445 hg w3 BK445 hb; have GE445 := ngw0 hg HB; replace HB := bS0 HB hb; clear hb hg))
 (try simp only [Act.put, sA, sB, sC])
 go_cut [3] (fun v3 wc => ∃ (kq : Nat) (x3_1 : Bool), v3 = .bool x3_1 ∧ Aside0 (spec_l05Kind.j0 kq x3_1 a0_0 a0_1 a0_2 a0_3 a0_4 a0_5 = some r) ∧ Aside0 (kq ≤ k) ∧ Aside0 (wc.heap[gb445]? = some (.cells #[.int .i64 a0_0, .int .i64 a0_1, .int .i64 a0_2, .int .i64 a0_3, .int .i64 a0_4, .int .i64 a0_5] 29 (0, 0))) ∧ Aside0 (Below w.heap.size w wc))
 case first =>
  have H := HC2.out
  clear HC2
  obtain ⟨t446, A4, H⟩ := ob H
  try dsimp only at H
  by_cases c5 : t446 = (-1)
  ·rw [if_pos c5] at H
   have c5b0 : (t446 == (-1)) = true := beq_iff_eq.mpr c5
   have c5b1 : (t446 != (-1)) = false := bne_eq_false_iff_eq.mpr c5
   clear c5
   (first | rw [c5b0] | (simp only [i64_w, i32_w]; rw [c5b0]) | skip)
   obtain ⟨⟨t447, t448⟩, A6, H⟩ := ob H
   try dsimp only at H
   have H' := Aside0.mk H
   clear H
   obtain ⟨hcz7_0, hcz7_1, hcz7_2, hcz7_3, hcz7_4, hcz7_5, hfz7_0, hfz7_1, hfz7_2, hfz7_3, hfz7_4, hfz7_5⟩ := bz6 BK445
   go_wp2_with (first | ((with_reducible refine gate_callee (f := 89) rfl ?_); refine gl 6 Tryz.func89 #[.agg #[.int .i64 a0_0, .int .i64 a0_1, .int .i64 a0_2, .int .i64 a0_3]] ?_; (with_reducible refine (spec_l02Det.calls _ _ _ _ _ _ A4.out).mono ?_); rintro e w8 ⟨rfl, hb⟩; refine ⟨_, rfl, ?_⟩; replace BK445 := bB BK445 hb; replace HB := bS1 HB GE445 hb; (try clear hb); obtain ⟨hcz9_0, hcz9_1, hcz9_2, hcz9_3, hcz9_4, hcz9_5, hfz9_0, hfz9_1, hfz9_2, hfz9_3, hfz9_4, hfz9_5⟩ := bz6 BK445) | (go_at_call 90; (with_reducible refine (spec_l05Twice.calls _ _ _ _ _ _ _ _ _ A6.out).mono ?_); rintro e w10 ⟨rfl, hb⟩; replace BK445 := bB BK445 hb; replace HB := bS1 HB GE445 hb; (try clear hb)))
   go_meet
   case rel => exact ⟨_, ((t447 == 0 && (t448 == 0))), (by first | rfl | (simp; done) | (simp [*]; done)), H', ⟨by first | omega | exact Nat.le_refl _⟩, ⟨bkp BK445⟩, ⟨bbw1 HB GE445⟩⟩
  ·rw [if_neg c5] at H
   have c5b0 : (t446 == (-1)) = false := beq_eq_false_iff_ne.mpr c5
   have c5b1 : (t446 != (-1)) = true := bne_iff_ne.mpr c5
   (first | rw [c5b0] | (simp only [i64_w, i32_w]; rw [c5b0]) | skip)
   have H' := Aside0.mk H
   clear H
   obtain ⟨hcz11_0, hcz11_1, hcz11_2, hcz11_3, hcz11_4, hcz11_5, hfz11_0, hfz11_1, hfz11_2, hfz11_3, hfz11_4, hfz11_5⟩ := bz6 BK445
   go_wp2_with (first | ((with_reducible refine gate_callee (f := 89) rfl ?_); refine gl 6 Tryz.func89 #[.agg #[.int .i64 a0_0, .int .i64 a0_1, .int .i64 a0_2, .int .i64 a0_3]] ?_; (with_reducible refine (spec_l02Det.calls _ _ _ _ _ _ A4.out).mono ?_); rintro e w12 ⟨rfl, hb⟩; refine ⟨_, rfl, ?_⟩; replace BK445 := bB BK445 hb; replace HB := bS1 HB GE445 hb; (try clear hb)))
   go_meet
   case rel => exact ⟨_, (false), (by first | rfl | (simp; done) | (simp [*]; done)), H', ⟨by first | omega | exact Nat.le_refl _⟩, ⟨bkp BK445⟩, ⟨bbw1 HB GE445⟩⟩
 case rest =>
  clear HC2
  try clear p2
  try clear c3
  try clear c5
  try clear c5b0
  try clear c5b1
  try clear c8
  try clear hcz11_0
  try clear hcz11_1
  try clear hcz11_2
  try clear hcz11_3
  try clear hcz11_4
  try clear hcz11_5
  try clear hcz7_0
  try clear hcz7_1
  try clear hcz7_2
  try clear hcz7_3
  try clear hcz7_4
  try clear hcz7_5
  try clear hcz9_0
  try clear hcz9_1
  try clear hcz9_2
  try clear hcz9_3
  try clear hcz9_4
  try clear hcz9_5
  try clear hfz11_0
  try clear hfz11_1
  try clear hfz11_2
  try clear hfz11_3
  try clear hfz11_4
  try clear hfz11_5
  try clear hfz7_0
  try clear hfz7_1
  try clear hfz7_2
  try clear hfz7_3
  try clear hfz7_4
  try clear hfz7_5
  try clear hfz9_0
  try clear hfz9_1
  try clear hfz9_2
  try clear hfz9_3
  try clear hfz9_4
  try clear hfz9_5
  obtain ⟨kq, x3_1, rfl, HA, HJ1, BK445, HB⟩ := hcut
  cases kq with
  | zero => exact absurd HA.out (by simp [spec_l05Kind.j0])
  | succ kj1 =>
   have H := HA.out
   clear HA
   simp only [spec_l05Kind.j0] at H
   by_cases c13 : x3_1 = true
   subst c13
   replace H := ifT H
   obtain rfl := Option.some.inj H
   rotate_left
   replace c13 := Bool.eq_false_iff.mpr c13
   subst c13
   replace H := ifF H
   obtain ⟨t449, A14, H⟩ := ob H
   try dsimp only at H
   by_cases c15 : t449 = (-1)
   rw [if_pos c15] at H
   have c15b0 : (t449 == (-1)) = true := beq_iff_eq.mpr c15
   have c15b1 : (t449 != (-1)) = false := bne_eq_false_iff_eq.mpr c15
   clear c15
   obtain rfl := Option.some.inj H
   rotate_left
   rw [if_neg c15] at H
   have c15b0 : (t449 == (-1)) = false := beq_eq_false_iff_ne.mpr c15
   have c15b1 : (t449 != (-1)) = true := bne_iff_ne.mpr c15
   obtain ⟨⟨t450, t451, t452, t453⟩, A18, H⟩ := ob H
   try dsimp only at H
   by_cases c19 : (!(a0_0 == t450) || (!(a0_1 == t451) || (!(a0_2 == t452) || (!(a0_3 == t453))))) = true
   rw [if_pos c19] at H
   have c19b0 := c19
   clear c19
   obtain rfl := Option.some.inj H
   rotate_left
   rw [if_neg c19] at H
   have c19b0 : (!(a0_0 == t450) || (!(a0_1 == t451) || (!(a0_2 == t452) || (!(a0_3 == t453))))) = false := by simpa using c19
   clear c19
   by_cases c24 : (!(a0_4 == 0) || (!(a0_5 == 0))) = true
   rw [if_pos c24] at H
   have c24b0 := c24
   clear c24
   obtain rfl := Option.some.inj H
   rotate_left
   rw [if_neg c24] at H
   have c24b0 : (!(a0_4 == 0) || (!(a0_5 == 0))) = false := by simpa using c24
   clear c24
   obtain rfl := Option.some.inj H
   rotate_left
   ·go_wp2
    go_ret
    exact er (bbw1 HB GE445)
   rotate_left 4
   all_goals
    obtain ⟨hcz16_0, hcz16_1, hcz16_2, hcz16_3, hcz16_4, hcz16_5, hfz16_0, hfz16_1, hfz16_2, hfz16_3, hfz16_4, hfz16_5⟩ := bz6 BK445
   ·go_wp2_with (first | ((with_reducible refine gate_callee (f := 89) rfl ?_); refine gl 17 Tryz.func89 #[.agg #[.int .i64 a0_0, .int .i64 a0_1, .int .i64 a0_2, .int .i64 a0_3]] ?_; (with_reducible refine (spec_l02Det.calls _ _ _ _ _ _ A14.out).mono ?_); rintro e w17 ⟨rfl, hb⟩; refine ⟨_, rfl, ?_⟩; replace BK445 := bB BK445 hb; replace HB := bS1 HB GE445 hb; (try clear hb)))
    go_ret
    exact er (bbw1 HB GE445)
   rotate_left 3
   all_goals
    try go_wp2_with (first | ((with_reducible refine gate_callee (f := 89) rfl ?_); refine gl 17 Tryz.func89 #[.agg #[.int .i64 a0_0, .int .i64 a0_1, .int .i64 a0_2, .int .i64 a0_3]] ?_; (with_reducible refine (spec_l02Det.calls _ _ _ _ _ _ A14.out).mono ?_); rintro e w21 ⟨rfl, hb⟩; refine ⟨_, rfl, ?_⟩; replace BK445 := bB BK445 hb; replace HB := bS1 HB GE445 hb; (try clear hb)))
    replace BK445 := asd (blk_drew BK445.out)
    replace HB := asd (below_drew1 HB.out)
    refine sh 5 (eb6 BK445) (fun hHeld => ?_)
    generalize w21.drew = w22 at BK445 HB hHeld ⊢
    refine pure_ (i := 0) (N := some 20) (v := ?_) (a' := ?_) (bT 5 1) rfl rfl (by kernel_rfl) (fun _ _ _ h => h) (Or.inl ⟨by rfl, ?_⟩) ?_ ?_
    rotate_left
    ·intro w'
     go_simp
     with_reducible rfl
    rotate_left
    ·simp only [Act.put, sA, sB, sC, i64_w, i32_w]
     rfl
    refine take_ (i := 1) (N := some 21) (v := ?_) (a' := ?_) (bT 5 2) rfl rfl (by kernel_rfl) (fun _ _ _ h => h) (Or.inl ⟨by rfl, ?_⟩) hHeld ?_ ?_
    rotate_left
    ·rintro w' ⟨s0, s1, s2, s3, s4, s5⟩
     go_simp
     with_reducible rfl
    rotate_left
    ·simp only [Act.put, sA, sB, sC, i64_w, i32_w]
     rfl
    refine one_ (i := 2) (N := some 22) (bT 5 3) rfl rfl (by kernel_rfl) (by decide) (fun K hK => ?_)
    refine gs Tryz.func81 #[] ?_
    with_reducible refine (spec_l02Unit.calls _ _ _ _ _ A18.out).mono ?_
    rintro e w23 ⟨rfl, hb⟩
    refine ⟨_, rfl, ?_⟩
    replace BK445 := bB BK445 hb
    replace HB := bS1 HB GE445 hb
    (try clear hb)
    (try clear hb2)
    (try clear hk)
    (try clear hi)
    refine hK.out _ _ (eb6 BK445).out (fun hHeld => ?_)
    clear hK K
    refine norm_ (a' := ?_) ?_ ?_
    rotate_left
    ·show Act.put _ (some 22) _ = _
     simp only [Act.put, sA, sB, sC, i64_w, i32_w]
     rfl
    refine pure_ (i := 3) (N := some 23) (v := ?_) (a' := ?_) (bT 5 4) rfl rfl (by kernel_rfl) (fun _ _ _ h => h) (Or.inl ⟨by rfl, ?_⟩) ?_ ?_
    rotate_left
    ·intro w'
     go_simp
     with_reducible rfl
    rotate_left
    ·simp only [Act.put, sA, sB, sC, i64_w, i32_w]
     rfl
    refine pure_ (i := 4) (N := some 19) (v := ?_) (a' := ?_) (bT 5 5) rfl rfl (by kernel_rfl) (fun _ _ _ h => h) (Or.inl ⟨by rfl, ?_⟩) ?_ ?_
    rotate_left
    ·intro w'
     go_simp
     with_reducible rfl
    rotate_left
    ·simp only [Act.put, sA, sB, sC, i64_w, i32_w]
     rfl
    refine done_ (by kernel_rfl) ?_
   ·try go_wp2
    go_ret
    exact er (bbw1 HB GE445)
   rotate_left 2
   all_goals
    obtain ⟨hcz29_0, hcz29_1, hcz29_2, hcz29_3, hcz29_4, hcz29_5, hfz29_0, hfz29_1, hfz29_2, hfz29_3, hfz29_4, hfz29_5⟩ := bz6 BK445
    try go_wp2
    go_ret
    exact er (bbw1 HB GE445)
/-! ### spec_l01Divisor: function 91 -/
def spec_l01Divisor.f : Nat → Int → Int → Option (Int)
 | 0, _, _ => none
 | k + 1, a0, a1 => if a1 = 0 then (some (mx a0 (wrap64 (-a0)))) else ((spec_l01Divisor.f k a1 (Int.tmod a0 a1)).bind fun t454 => (some t454))
set_option maxHeartbeats 8000000 in
set_option maxRecDepth 100000 in
theorem spec_l01Divisor.calls (k : Nat) : ∀ (a0 : Int) (a1 : Int) (r : Int) (w : World) (h : spec_l01Divisor.f k a0 a1 = some r),
  Calls Tryz.prog 91 #[.int .i64 a0, .int .i64 a1] w fun e w' => e = .returned (.int .i64 r) ∧ Below w.heap.size w w' := by
 induction k using Nat.strongRecOn with
 | _ k ih =>
 intro a0 a1 r w h
 cases k with
 | zero => exact absurd h (by simp [spec_l01Divisor.f])
 | succ k =>
 simp only [spec_l01Divisor.f] at h
 have HB := asd (Below.refl w.heap.size w)
 have H : (if a1 = 0 then (some (mx a0 (wrap64 (-a0)))) else ((spec_l01Divisor.f k a1 (Int.tmod a0 a1)).bind fun t454 => (some t454))) = some r := h
 clear h
 by_cases c3 : a1 = 0
 ·rw [if_pos c3] at H
  have c3b0 : (a1 == 0) = true := beq_iff_eq.mpr c3
  have c3b1 : (a1 != 0) = false := bne_eq_false_iff_eq.mpr c3
  clear c3
  obtain ⟨ji4, hji4⟩ : ∃ j_ : Int, (mx a0 (wrap64 (-a0))) = j_ := ⟨_, rfl⟩
  replace H : (some ji4) = some r := by first | (rw [hji4] at H; first | done | exact H) | (simp only [hji4] at H ⊢; exact H)
  have hji4_ : (if a0 < (wrap64 (-a0)) then (wrap64 (-a0)) else a0) = ji4 := hji4
  obtain rfl := Option.some.inj H
  go_enter Tryz.func91, Tryz.ntmps91
  go_wp2
  go_ret
  exact ⟨by first | rfl | (simp [errW_none, errW_some] <;> rfl) | (simp only [← hji4]; first | rfl | (simp [errW_none, errW_some] <;> rfl)) | (simp [*, errW_none, errW_some] <;> rfl), bbw0 HB⟩
 ·rw [if_neg c3] at H
  have c3b0 : (a1 == 0) = false := beq_eq_false_iff_ne.mpr c3
  have c3b1 : (a1 != 0) = true := bne_iff_ne.mpr c3
  obtain ⟨t454, A5, H⟩ := ob H
  try dsimp only at H
  obtain rfl := Option.some.inj H
  go_enter Tryz.func91, Tryz.ntmps91
  go_wp2_with (first | ((with_reducible refine gate_callee (f := 91) rfl ?_); refine gl 15 Tryz.func91 #[.int .i64 a1, .int .i64 (Int.tmod a0 a1)] ?_; (with_reducible refine (ih k (by omega) a1 (Int.tmod a0 a1) t454 _ A5.out).mono ?_); rintro e w6 ⟨rfl, hb⟩; refine ⟨_, rfl, ?_⟩; replace HB := bS0 HB hb; (try clear hb)))
  go_ret
  exact er (bbw0 HB)

end Go.Proofs.YtnblfcibgokccaaGreatDoor.PC
