/- Walks written by program: each Go function that the law reaches comes to the plain function beside it. -/
import Derived.Test.YtnblfcibgokccaaGreatDoorPAx0
import Derived.Test.YtnblfcibgokccaaGreatDoorPAx1
import Derived.Test.YtnblfcibgokccaaGreatDoorPAx2
import Derived.Test.YtnblfcibgokccaaGreatDoorPAx3
import Derived.Test.YtnblfcibgokccaaGreatDoorPAx4
import Derived.Test.YtnblfcibgokccaaGreatDoorPAx5
namespace Go.Proofs.YtnblfcibgokccaaGreatDoor.PA
open Go.RowKit Go.Proofs.YtnblfcibgokccaaGreatDoorW.PrintWords Go.Proofs.YtnblfcibgokccaaGreatDoorW.PrintLast Go.Proofs.YtnblfcibgokccaaGreatDoorW.PrintMore
attribute [local go_sem] max2_int min2_int max_two min_two max_three min_three max_four min_four   -- for this text's walks alone
set_option linter.unusedVariables false
set_option linter.unusedSimpArgs false

attribute [local go_sem high] eqA27
/-! ### spec_IsMat: function 58 -/
def spec_IsMat.f (a0_0 : Int) (a0_1 : Int) (a0_2 : Int) (a0_3 : Int) : Option (Bool) := (spec_l02Small.f a0_0 a0_1 a0_2 a0_3).bind fun t287 => (if t287 = true then ((spec_l02Det.f a0_0 a0_1 a0_2 a0_3).bind fun t288 => (if t288 = 1 then (some true) else ((spec_l02Det.f a0_0 a0_1 a0_2 a0_3).bind fun t289 => (some (t289 == (-1)))))) else (some false))
set_option maxHeartbeats 8000000 in
set_option maxRecDepth 100000 in
theorem spec_IsMat.calls (a0_0 : Int) (a0_1 : Int) (a0_2 : Int) (a0_3 : Int) (r : Bool) (w : World) (h : spec_IsMat.f a0_0 a0_1 a0_2 a0_3 = some r) :
  Calls Tryz.prog 58 #[.agg #[.int .i64 a0_0, .int .i64 a0_1, .int .i64 a0_2, .int .i64 a0_3]] w fun e w' => e = .returned (.bool r) ∧ Below w.heap.size w w' := by
 have hu25 := Tryz.underlying25
 have HB := asd (Below.refl w.heap.size w)
 have H : ((spec_l02Small.f a0_0 a0_1 a0_2 a0_3).bind fun t287 => (if t287 = true then ((spec_l02Det.f a0_0 a0_1 a0_2 a0_3).bind fun t288 => (if t288 = 1 then (some true) else ((spec_l02Det.f a0_0 a0_1 a0_2 a0_3).bind fun t289 => (some (t289 == (-1)))))) else (some false))) = some r := h
 clear h
 obtain ⟨t287, A2, H⟩ := ob H
 try dsimp only at H
 by_cases c3 : t287 = true
 ·subst c3
  replace H := ifT H
  obtain ⟨t288, A4, H⟩ := ob H
  try dsimp only at H
  by_cases c5 : t288 = 1
  ·rw [if_pos c5] at H
   have c5b0 : (t288 == 1) = true := beq_iff_eq.mpr c5
   have c5b1 : (t288 != 1) = false := bne_eq_false_iff_eq.mpr c5
   clear c5
   obtain rfl := Option.some.inj H
   go_enter Tryz.func58, Tryz.ntmps58
   go_wp2_with (first | ((with_reducible refine gd 1 rfl ?_); refine bx #[.int .i64 a0_0, .int .i64 a0_1, .int .i64 a0_2, .int .i64 a0_3] 25 ?_; intro gb286 hg w6 BK286 hb; have GE286 := ngw0 hg HB; replace HB := bS0 HB hb; clear hb hg; obtain ⟨hcz7_0, hcz7_1, hcz7_2, hcz7_3, hfz7_0, hfz7_1, hfz7_2, hfz7_3⟩ := bz4 BK286) | ((with_reducible refine gate_callee (f := 99) rfl ?_); refine gl 4 Tryz.func99 #[.agg #[.int .i64 a0_0, .int .i64 a0_1, .int .i64 a0_2, .int .i64 a0_3]] ?_; (with_reducible refine (spec_l02Small.calls _ _ _ _ _ _ A2.out).mono ?_); rintro e w8 ⟨rfl, hb⟩; refine ⟨_, rfl, ?_⟩; replace BK286 := bB BK286 hb; replace HB := bS1 HB GE286 hb; (try clear hb); obtain ⟨hcz9_0, hcz9_1, hcz9_2, hcz9_3, hfz9_0, hfz9_1, hfz9_2, hfz9_3⟩ := bz4 BK286) | (go_at_call 89; (with_reducible refine (spec_l02Det.calls _ _ _ _ _ _ A4.out).mono ?_); rintro e w10 ⟨rfl, hb⟩; replace BK286 := bB BK286 hb; replace HB := bS1 HB GE286 hb; (try clear hb)))
   go_ret
   exact er (bbw1 HB GE286)
  ·rw [if_neg c5] at H
   have c5b0 : (t288 == 1) = false := beq_eq_false_iff_ne.mpr c5
   have c5b1 : (t288 != 1) = true := bne_iff_ne.mpr c5
   obtain ⟨t289, A11, H⟩ := ob H
   try dsimp only at H
   have e_ : t288 = t289 := Option.some.inj (A4.out.symm.trans A11.out)
   subst e_
   obtain rfl := Option.some.inj H
   go_enter Tryz.func58, Tryz.ntmps58
   go_wp2_with (first | ((with_reducible refine gd 1 rfl ?_); refine bx #[.int .i64 a0_0, .int .i64 a0_1, .int .i64 a0_2, .int .i64 a0_3] 25 ?_; intro gb286 hg w12 BK286 hb; have GE286 := ngw0 hg HB; replace HB := bS0 HB hb; clear hb hg; obtain ⟨hcz13_0, hcz13_1, hcz13_2, hcz13_3, hfz13_0, hfz13_1, hfz13_2, hfz13_3⟩ := bz4 BK286) | ((with_reducible refine gate_callee (f := 99) rfl ?_); refine gl 4 Tryz.func99 #[.agg #[.int .i64 a0_0, .int .i64 a0_1, .int .i64 a0_2, .int .i64 a0_3]] ?_; (with_reducible refine (spec_l02Small.calls _ _ _ _ _ _ A2.out).mono ?_); rintro e w14 ⟨rfl, hb⟩; refine ⟨_, rfl, ?_⟩; replace BK286 := bB BK286 hb; replace HB := bS1 HB GE286 hb; (try clear hb); obtain ⟨hcz15_0, hcz15_1, hcz15_2, hcz15_3, hfz15_0, hfz15_1, hfz15_2, hfz15_3⟩ := bz4 BK286) | (go_at_call 89; (with_reducible refine (spec_l02Det.calls _ _ _ _ _ _ A4.out).mono ?_); rintro e w16 ⟨rfl, hb⟩; replace BK286 := bB BK286 hb; replace HB := bS1 HB GE286 hb; (try clear hb); obtain ⟨hcz17_0, hcz17_1, hcz17_2, hcz17_3, hfz17_0, hfz17_1, hfz17_2, hfz17_3⟩ := bz4 BK286) | (go_at_call 89; (with_reducible refine (spec_l02Det.calls _ _ _ _ _ _ A11.out).mono ?_); rintro e w18 ⟨rfl, hb⟩; replace BK286 := bB BK286 hb; replace HB := bS1 HB GE286 hb; (try clear hb)))
   go_ret
   exact er (bbw1 HB GE286)
 ·replace c3 := Bool.eq_false_iff.mpr c3
  subst c3
  replace H := ifF H
  obtain rfl := Option.some.inj H
  go_enter Tryz.func58, Tryz.ntmps58
  go_wp2_with (first | ((with_reducible refine gd 1 rfl ?_); refine bx #[.int .i64 a0_0, .int .i64 a0_1, .int .i64 a0_2, .int .i64 a0_3] 25 ?_; intro gb286 hg w19 BK286 hb; have GE286 := ngw0 hg HB; replace HB := bS0 HB hb; clear hb hg; obtain ⟨hcz20_0, hcz20_1, hcz20_2, hcz20_3, hfz20_0, hfz20_1, hfz20_2, hfz20_3⟩ := bz4 BK286) | ((with_reducible refine gate_callee (f := 99) rfl ?_); refine gl 4 Tryz.func99 #[.agg #[.int .i64 a0_0, .int .i64 a0_1, .int .i64 a0_2, .int .i64 a0_3]] ?_; (with_reducible refine (spec_l02Small.calls _ _ _ _ _ _ A2.out).mono ?_); rintro e w21 ⟨rfl, hb⟩; refine ⟨_, rfl, ?_⟩; replace BK286 := bB BK286 hb; replace HB := bS1 HB GE286 hb; (try clear hb)))
  go_ret
  exact er (bbw1 HB GE286)

attribute [local go_sem high] eqA25
/-! ### spec_l02Order: function 100 -/
def spec_l02Order.l0 : Nat → Int → Int → Int → Int → Int → Int → Int → Int → Int → Option (Int)
 | 0, _, _, _, _, _, _, _, _, _ => none
 | k + 1, x4, x291000, x291001, x291002, x291003, x296000, x296001, x296002, x296003 => if x4 ≤ 6 then ((spec_l02Multiply.f x291000 x291001 x291002 x291003 x296000 x296001 x296002 x296003).bind fun bt296 => ((spec_l02Small.f bt296.1 bt296.2.1 bt296.2.2.1 bt296.2.2.2).bind fun t300 => (if t300 = true then ((spec_l02Unit.f).bind fun bt301 => (if (bt296.1 == bt301.1 && (bt296.2.1 == bt301.2.1 && (bt296.2.2.1 == bt301.2.2.1 && (bt296.2.2.2 == bt301.2.2.2)))) = true then (some x4) else (spec_l02Order.l0 k (wrap64 (x4 + 1)) x291000 x291001 x291002 x291003 bt296.1 bt296.2.1 bt296.2.2.1 bt296.2.2.2))) else (some 0)))) else (some 0)
def spec_l02Order.f (k : Nat) (a0_0 : Int) (a0_1 : Int) (a0_2 : Int) (a0_3 : Int) : Option (Int) := (spec_l02Unit.f).bind fun bt291 => (spec_l02Order.l0 k 1 a0_0 a0_1 a0_2 a0_3 bt291.1 bt291.2.1 bt291.2.2.1 bt291.2.2.2)
set_option maxHeartbeats 8000000 in
set_option maxRecDepth 100000 in
theorem spec_l02Order.calls (k : Nat) (a0_0 : Int) (a0_1 : Int) (a0_2 : Int) (a0_3 : Int) (r : Int) (w : World) (h : spec_l02Order.f k a0_0 a0_1 a0_2 a0_3 = some r) :
  Calls Tryz.prog 100 #[.agg #[.int .i64 a0_0, .int .i64 a0_1, .int .i64 a0_2, .int .i64 a0_3]] w fun e w' => e = .returned (.int .i64 r) ∧ Below w.heap.size w w' := by
 have hu25 := Tryz.underlying25
 have HB := asd (Below.refl w.heap.size w)
 have H : ((spec_l02Unit.f).bind fun bt291 => (spec_l02Order.l0 k 1 a0_0 a0_1 a0_2 a0_3 bt291.1 bt291.2.1 bt291.2.2.1 bt291.2.2.2)) = some r := h
 clear h
 obtain ⟨⟨t291, t292, t293, t294⟩, A2, H⟩ := ob H
 try dsimp only at H
 have H' := Aside0.mk H
 clear H
 go_enter Tryz.func100, Tryz.ntmps100
 go_wp2_with (first | ((with_reducible refine gd 1 rfl ?_); refine bx #[.int .i64 a0_0, .int .i64 a0_1, .int .i64 a0_2, .int .i64 a0_3] 25 ?_; intro gb290 hg w3 BK290 hb; have GE290 := ngw0 hg HB; replace HB := bS0 HB hb; clear hb hg) | ((with_reducible refine gate_callee (f := 81) rfl ?_); refine gl 5 Tryz.func81 #[] ?_; (with_reducible refine (spec_l02Unit.calls _ _ _ _ _ A2.out).mono ?_); rintro e w4 ⟨rfl, hb⟩; refine ⟨_, rfl, ?_⟩; replace BK290 := bB BK290 hb; replace HB := bS1 HB GE290 hb; (try clear hb)) | ((with_reducible refine gd 3 rfl ?_); refine bx #[.int .i64 0, .int .i64 0, .int .i64 0, .int .i64 0] 25 ?_; intro gb295 hg w5 BK295 hb; have GE295 := ngw1 hg HB GE290; replace HB := bS1 HB GE290 hb; have NB290_295 := nlt hg BK290; have NB295_290 := nsy (nlt hg BK290); replace BK290 := bB BK290 hb; clear hb hg; have hnb6 := NB295_290.out; have hnc6 := NB290_295.out; obtain ⟨hcz7_0, hcz7_1, hcz7_2, hcz7_3, hfz7_0, hfz7_1, hfz7_2, hfz7_3⟩ := bz4 BK295))
 go_loopg [4] k (fun kq v4 w' => ∃ (x4_1 : Int) (x296000_1 : Int) (x296001_1 : Int) (x296002_1 : Int) (x296003_1 : Int), v4 = .int .i64 x4_1 ∧ Aside0 (spec_l02Order.l0 kq x4_1 a0_0 a0_1 a0_2 a0_3 x296000_1 x296001_1 x296002_1 x296003_1 = some r) ∧ Aside0 (kq ≤ k) ∧ Aside0 (w'.heap[gb290]? = some (.cells #[.int .i64 a0_0, .int .i64 a0_1, .int .i64 a0_2, .int .i64 a0_3] 25 (0, 0))) ∧ Aside0 (w'.heap[gb295]? = some (.cells #[.int .i64 x296000_1, .int .i64 x296001_1, .int .i64 x296002_1, .int .i64 x296003_1] 25 (0, 0))) ∧ Aside0 (Below w.heap.size w w'))
 case atStart => exact ⟨(1), (t291), (t292), (t293), (t294), (by first | rfl | (simp; done) | (simp [*]; done)), H', ⟨Nat.le_refl _⟩, ⟨bq1 BK290 NB290_295⟩, ⟨bq0 BK295⟩, ⟨bbw2 HB GE290 GE295⟩⟩
 case round =>
  clear H'
  try clear c1
  try clear p2
  try clear c6
  try clear hcz7_0
  try clear hcz7_1
  try clear hcz7_2
  try clear hcz7_3
  try clear hfz7_0
  try clear hfz7_1
  try clear hfz7_2
  try clear hfz7_3
  obtain ⟨x4_1, x296000_1, x296001_1, x296002_1, x296003_1, rfl, HA, HK1, BK290, BK295, HB⟩ := hrel
  cases gk with
  | zero => exact absurd HA.out (by simp [spec_l02Order.l0])
  | succ k1 =>
   have H := HA.out
   clear HA
   simp only [spec_l02Order.l0] at H
   by_cases c8 : x4_1 ≤ 6
   rw [if_pos c8] at H
   have c8b0 := decide_eq_true c8
   clear c8
   obtain ⟨⟨t296, t297, t298, t299⟩, A9, H⟩ := ob H
   try dsimp only at H
   obtain ⟨t300, A10, H⟩ := ob H
   try dsimp only at H
   by_cases c11 : t300 = true
   subst c11
   replace H := ifT H
   obtain ⟨⟨t301, t302, t303, t304⟩, A12, H⟩ := ob H
   try dsimp only at H
   by_cases c13 : (t296 == t301 && (t297 == t302 && (t298 == t303 && (t299 == t304)))) = true
   rw [if_pos c13] at H
   have c13b0 := c13
   (try (have c13b1 : decide (t296 = t301 && (t297 == t302 && (t298 == t303 && (t299 == t304)))) = true := by simpa using c13))
   (try (have c13b2 : (t296 == t301 && (t297 == t302 && (t298 == t303 && (t299 == t304)))) = true := by simpa using c13))
   clear c13
   obtain rfl := Option.some.inj H
   rotate_left
   rw [if_neg c13] at H
   have c13b0 : (t296 == t301 && (t297 == t302 && (t298 == t303 && (t299 == t304)))) = false := by simpa using c13
   (try (have c13b1 : decide (t296 = t301 && (t297 == t302 && (t298 == t303 && (t299 == t304)))) = false := by simpa using c13))
   (try (have c13b2 : (t296 == t301 && (t297 == t302 && (t298 == t303 && (t299 == t304)))) = false := by simpa using c13))
   (try (have c13b3 : ¬ (t296 = t301 && (t297 == t302 && (t298 == t303 && (t299 == t304)))) := by simpa using c13))
   clear c13
   have H' := Aside0.mk H
   clear H
   rotate_left
   replace c11 := Bool.eq_false_iff.mpr c11
   subst c11
   replace H := ifF H
   obtain rfl := Option.some.inj H
   rotate_left
   rw [if_neg c8] at H
   have c8b0 := decide_eq_false c8
   clear c8
   obtain rfl := Option.some.inj H
   rotate_left
   rotate_left 3
   ·go_wp2
    go_ret
    exact er (bbw2 HB GE290 GE295)
   all_goals
    have hnb14 := NB290_295.out
    have hnc14 := NB295_290.out
    obtain ⟨hcz15_0, hcz15_1, hcz15_2, hcz15_3, hfz15_0, hfz15_1, hfz15_2, hfz15_3⟩ := bz4 BK290
    obtain ⟨hcz16_0, hcz16_1, hcz16_2, hcz16_3, hfz16_0, hfz16_1, hfz16_2, hfz16_3⟩ := bz4 BK295
   rotate_left 2
   ·go_wp2_with (first | ((with_reducible refine gate_callee (f := 51) rfl ?_); refine gl 12 Tryz.func51 #[.agg #[.int .i64 a0_0, .int .i64 a0_1, .int .i64 a0_2, .int .i64 a0_3], .agg #[.int .i64 x296000_1, .int .i64 x296001_1, .int .i64 x296002_1, .int .i64 x296003_1]] ?_; (with_reducible refine (spec_l02Multiply.calls _ _ _ _ _ _ _ _ _ _ _ _ _ A9.out).mono ?_); rintro e w33 ⟨rfl, hb⟩; refine ⟨_, rfl, ?_⟩; replace BK290 := bB BK290 hb; replace BK295 := bB BK295 hb; replace HB := bS2 HB GE290 GE295 hb; (try clear hb); obtain ⟨hcz34_0, hcz34_1, hcz34_2, hcz34_3, hfz34_0, hfz34_1, hfz34_2, hfz34_3⟩ := bz4 BK295) | ((with_reducible refine gate_callee (f := 99) rfl ?_); refine gl 14 Tryz.func99 #[.agg #[.int .i64 t296, .int .i64 t297, .int .i64 t298, .int .i64 t299]] ?_; (with_reducible refine (spec_l02Small.calls _ _ _ _ _ _ A10.out).mono ?_); rintro e w35 ⟨rfl, hb⟩; refine ⟨_, rfl, ?_⟩; replace BK290 := asd (blk_below (g := gb290) (o := .cells #[.int .i64 a0_0, .int .i64 a0_1, .int .i64 a0_2, .int .i64 a0_3] 25 (0, 0)) (bq1 BK290 NB290_295) hb); replace BK295 := asd (blk_below (g := gb295) (o := .cells #[.int .i64 t296, .int .i64 t297, .int .i64 t298, .int .i64 t299] 25 (0, 0)) (bq0 BK295) hb); replace HB := bS2 HB GE290 GE295 hb; (try clear hb)))
    go_ret
    exact er (bbw2 HB GE290 GE295)
   all_goals
    try go_wp2_with (first | ((with_reducible refine gate_callee (f := 51) rfl ?_); refine gl 12 Tryz.func51 #[.agg #[.int .i64 a0_0, .int .i64 a0_1, .int .i64 a0_2, .int .i64 a0_3], .agg #[.int .i64 x296000_1, .int .i64 x296001_1, .int .i64 x296002_1, .int .i64 x296003_1]] ?_; (with_reducible refine (spec_l02Multiply.calls _ _ _ _ _ _ _ _ _ _ _ _ _ A9.out).mono ?_); rintro e w17 ⟨rfl, hb⟩; refine ⟨_, rfl, ?_⟩; replace BK290 := bB BK290 hb; replace BK295 := bB BK295 hb; replace HB := bS2 HB GE290 GE295 hb; (try clear hb); obtain ⟨hcz18_0, hcz18_1, hcz18_2, hcz18_3, hfz18_0, hfz18_1, hfz18_2, hfz18_3⟩ := bz4 BK295) | ((with_reducible refine gate_callee (f := 99) rfl ?_); refine gl 14 Tryz.func99 #[.agg #[.int .i64 t296, .int .i64 t297, .int .i64 t298, .int .i64 t299]] ?_; (with_reducible refine (spec_l02Small.calls _ _ _ _ _ _ A10.out).mono ?_); rintro e w19 ⟨rfl, hb⟩; refine ⟨_, rfl, ?_⟩; replace BK290 := asd (blk_below (g := gb290) (o := .cells #[.int .i64 a0_0, .int .i64 a0_1, .int .i64 a0_2, .int .i64 a0_3] 25 (0, 0)) (bq1 BK290 NB290_295) hb); replace BK295 := asd (blk_below (g := gb295) (o := .cells #[.int .i64 t296, .int .i64 t297, .int .i64 t298, .int .i64 t299] 25 (0, 0)) (bq0 BK295) hb); replace HB := bS2 HB GE290 GE295 hb; (try clear hb)))
    replace BK290 := asd (blk_drew BK290.out)
    replace BK295 := asd (blk_drew BK295.out)
    replace HB := asd (below_drew1 HB.out)
    refine sh 3 (eb4 BK295) (fun hHeld => ?_)
    generalize w19.drew = w20 at BK290 BK295 HB hHeld ⊢
    refine take_ (i := 0) (N := some 16) (v := ?_) (a' := ?_) (bT 3 1) rfl rfl (by kernel_rfl) (fun _ _ _ h => h) (Or.inl ⟨by rfl, ?_⟩) hHeld ?_ ?_
    rotate_left
    ·rintro w' ⟨s0, s1, s2, s3⟩
     go_simp
     with_reducible rfl
    rotate_left
    ·simp only [Act.put, sA, sB, sC, i64_w, i32_w]
     rfl
    refine one_ (i := 1) (N := some 17) (bT 3 2) rfl rfl (by kernel_rfl) (by decide) (fun K hK => ?_)
    refine gs Tryz.func81 #[] ?_
    with_reducible refine (spec_l02Unit.calls _ _ _ _ _ A12.out).mono ?_
    rintro e w21 ⟨rfl, hb⟩
    refine ⟨_, rfl, ?_⟩
    replace BK290 := bB BK290 hb
    replace BK295 := bB BK295 hb
    replace HB := bS2 HB GE290 GE295 hb
    (try clear hb)
    (try clear hb2)
    (try clear hk)
    (try clear hi)
    refine hK.out _ _ (eb4 BK295).out (fun hHeld => ?_)
    clear hK K
    refine norm_ (a' := ?_) ?_ ?_
    rotate_left
    ·show Act.put _ (some 17) _ = _
     simp only [Act.put, sA, sB, sC, i64_w, i32_w]
     rfl
    refine pure_ (i := 2) (N := some 18) (v := ?_) (a' := ?_) (bT 3 3) rfl rfl (by kernel_rfl) (fun _ _ _ h => h) (Or.inl ⟨by rfl, ?_⟩) ?_ ?_
    rotate_left
    ·intro w'
     go_simp
     with_reducible rfl
    rotate_left
    ·simp only [Act.put, sA, sB, sC, i64_w, i32_w]
     rfl
    refine done_ (by kernel_rfl) ?_
    try go_wp2
   ·go_ret
    exact er (bbw2 HB GE290 GE295)
   ·go_roundg k1
    case measure => have := HK1.out; omega
    case rel => exact ⟨(wrap64 (x4_1 + 1)), (t296), (t297), (t298), (t299), (by first | rfl | (simp; done) | (simp [*]; done)), H', ⟨by have := HK1.out; omega⟩, ⟨bkp BK290⟩, ⟨bkp BK295⟩, ⟨bbw2 HB GE290 GE295⟩⟩
/-! ### spec_l02Kind: function 59 -/
def spec_l02Kind.f (k : Nat) (a0_0 : Int) (a0_1 : Int) (a0_2 : Int) (a0_3 : Int) : Option (Int) := (spec_l02Det.f a0_0 a0_1 a0_2 a0_3).bind fun t306 => (if t306 = 1 then ((spec_l02Order.f k a0_0 a0_1 a0_2 a0_3).bind fun t307 => (some t307)) else ((spec_l02Order.f k a0_0 a0_1 a0_2 a0_3).bind fun t308 => (if t308 = 2 then (some (-2)) else (some 0))))
set_option maxHeartbeats 8000000 in
set_option maxRecDepth 100000 in
theorem spec_l02Kind.calls (k : Nat) (a0_0 : Int) (a0_1 : Int) (a0_2 : Int) (a0_3 : Int) (r : Int) (w : World) (h : spec_l02Kind.f k a0_0 a0_1 a0_2 a0_3 = some r) :
  Calls Tryz.prog 59 #[.agg #[.int .i64 a0_0, .int .i64 a0_1, .int .i64 a0_2, .int .i64 a0_3]] w fun e w' => e = .returned (.int .i64 r) ∧ Below w.heap.size w w' := by
 have hu25 := Tryz.underlying25
 have HB := asd (Below.refl w.heap.size w)
 have H : ((spec_l02Det.f a0_0 a0_1 a0_2 a0_3).bind fun t306 => (if t306 = 1 then ((spec_l02Order.f k a0_0 a0_1 a0_2 a0_3).bind fun t307 => (some t307)) else ((spec_l02Order.f k a0_0 a0_1 a0_2 a0_3).bind fun t308 => (if t308 = 2 then (some (-2)) else (some 0))))) = some r := h
 clear h
 obtain ⟨t306, A2, H⟩ := ob H
 try dsimp only at H
 by_cases c3 : t306 = 1
 rw [if_pos c3] at H
 have c3b0 : (t306 == 1) = true := beq_iff_eq.mpr c3
 have c3b1 : (t306 != 1) = false := bne_eq_false_iff_eq.mpr c3
 clear c3
 obtain ⟨t307, A4, H⟩ := ob H
 try dsimp only at H
 obtain rfl := Option.some.inj H
 rotate_left
 rw [if_neg c3] at H
 have c3b0 : (t306 == 1) = false := beq_eq_false_iff_ne.mpr c3
 have c3b1 : (t306 != 1) = true := bne_iff_ne.mpr c3
 obtain ⟨t308, A10, H⟩ := ob H
 try dsimp only at H
 by_cases c11 : t308 = 2
 rw [if_pos c11] at H
 have c11b0 : (t308 == 2) = true := beq_iff_eq.mpr c11
 have c11b1 : (t308 != 2) = false := bne_eq_false_iff_eq.mpr c11
 clear c11
 obtain rfl := Option.some.inj H
 rotate_left
 rw [if_neg c11] at H
 have c11b0 : (t308 == 2) = false := beq_eq_false_iff_ne.mpr c11
 have c11b1 : (t308 != 2) = true := bne_iff_ne.mpr c11
 obtain rfl := Option.some.inj H
 rotate_left
 all_goals
  go_enter Tryz.func59, Tryz.ntmps59
  go_wp2_with (first | ((with_reducible refine gd 1 rfl ?_); refine bx #[.int .i64 a0_0, .int .i64 a0_1, .int .i64 a0_2, .int .i64 a0_3] 25 ?_; intro gb305 hg w5 BK305 hb; have GE305 := ngw0 hg HB; replace HB := bS0 HB hb; clear hb hg; obtain ⟨hcz6_0, hcz6_1, hcz6_2, hcz6_3, hfz6_0, hfz6_1, hfz6_2, hfz6_3⟩ := bz4 BK305) | ((with_reducible refine gate_callee (f := 89) rfl ?_); refine gl 5 Tryz.func89 #[.agg #[.int .i64 a0_0, .int .i64 a0_1, .int .i64 a0_2, .int .i64 a0_3]] ?_; (with_reducible refine (spec_l02Det.calls _ _ _ _ _ _ A2.out).mono ?_); rintro e w7 ⟨rfl, hb⟩; refine ⟨_, rfl, ?_⟩; replace BK305 := bB BK305 hb; replace HB := bS1 HB GE305 hb; (try clear hb); obtain ⟨hcz8_0, hcz8_1, hcz8_2, hcz8_3, hfz8_0, hfz8_1, hfz8_2, hfz8_3⟩ := bz4 BK305) | ((with_reducible refine gate_callee (f := 100) rfl ?_); refine gl 8 Tryz.func100 #[.agg #[.int .i64 a0_0, .int .i64 a0_1, .int .i64 a0_2, .int .i64 a0_3]] ?_; (with_reducible refine (spec_l02Order.calls _ _ _ _ _ _ _ A4.out).mono ?_); rintro e w9 ⟨rfl, hb⟩; refine ⟨_, rfl, ?_⟩; replace BK305 := bB BK305 hb; replace HB := bS1 HB GE305 hb; (try clear hb)) | ((with_reducible refine gate_callee (f := 100) rfl ?_); refine gl 11 Tryz.func100 #[.agg #[.int .i64 a0_0, .int .i64 a0_1, .int .i64 a0_2, .int .i64 a0_3]] ?_; (with_reducible refine (spec_l02Order.calls _ _ _ _ _ _ _ A10.out).mono ?_); rintro e w16 ⟨rfl, hb⟩; refine ⟨_, rfl, ?_⟩; replace BK305 := bB BK305 hb; replace HB := bS1 HB GE305 hb; (try clear hb)))
  go_ret
  exact er (bbw1 HB GE305)
/-! ### spec_l01Result: function 60 -/
def spec_l01Result.f (a0_0 : Int) (a0_1 : Int) : Option (Int × Int × Int) := (spec_IsVec.f a0_0 a0_1).bind fun t311 => (if t311 = true then (some (a0_0, a0_1, 0)) else (some (0, 0, 3)))
set_option maxHeartbeats 8000000 in
set_option maxRecDepth 100000 in
theorem spec_l01Result.calls (a0_0 : Int) (a0_1 : Int) (r1 : Int) (r2 : Int) (r3 : Int) (w : World) (h : spec_l01Result.f a0_0 a0_1 = some (r1, r2, r3)) :
  Calls Tryz.prog 60 #[.agg #[.int .i64 a0_0, .int .i64 a0_1]] w fun e w' => e = .returned (.tuple #[.agg #[.int .i64 r1, .int .i64 r2], .int .i64 r3]) ∧ Below w.heap.size w w' := by
 have hu27 := Tryz.underlying27
 have HB := asd (Below.refl w.heap.size w)
 have H : ((spec_IsVec.f a0_0 a0_1).bind fun t311 => (if t311 = true then (some (a0_0, a0_1, 0)) else (some (0, 0, 3)))) = some (r1, r2, r3) := h
 clear h
 obtain ⟨t311, A2, H⟩ := ob H
 try dsimp only at H
 by_cases c3 : t311 = true
 ·subst c3
  replace H := ifT H
  simp only [Option.some.injEq, Prod.mk.injEq] at H
  obtain ⟨rfl, rfl, rfl⟩ := H
  go_enter Tryz.func60, Tryz.ntmps60
  go_wp2_with (first | ((with_reducible refine gd 1 rfl ?_); refine bx #[.int .i64 a0_0, .int .i64 a0_1] 27 ?_; intro gb309 hg w4 BK309 hb; have GE309 := ngw0 hg HB; replace HB := bS0 HB hb; clear hb hg) | ((with_reducible refine gd 2 rfl ?_); refine bx #[.int .i64 0, .int .i64 0] 27 ?_; intro gb310 hg w5 BK310 hb; have GE310 := ngw1 hg HB GE309; replace HB := bS1 HB GE309 hb; have NB309_310 := nlt hg BK309; have NB310_309 := nsy (nlt hg BK309); replace BK309 := bB BK309 hb; clear hb hg; have hnb6 := NB309_310.out; have hnc6 := NB310_309.out; obtain ⟨hcz7_0, hcz7_1, hfz7_0, hfz7_1⟩ := bz2 BK309) | ((with_reducible refine gate_callee (f := 41) rfl ?_); refine gl 5 Tryz.func41 #[.agg #[.int .i64 a0_0, .int .i64 a0_1]] ?_; (with_reducible refine (spec_IsVec.calls _ _ _ _ A2.out).mono ?_); rintro e w8 ⟨rfl, hb⟩; refine ⟨_, rfl, ?_⟩; replace BK309 := bB BK309 hb; replace BK310 := bB BK310 hb; replace HB := bS2 HB GE309 GE310 hb; (try clear hb); obtain ⟨hcz9_0, hcz9_1, hfz9_0, hfz9_1⟩ := bz2 BK309; obtain ⟨hcz10_0, hcz10_1, hfz10_0, hfz10_1⟩ := bz2 BK310))
  refine bodyPost_ret (results_ct rfl _ _ gb310 27 #[.int .i64 a0_0, .int .i64 a0_1] (0, 0) _ rfl (bq0 BK310) Tryz.underlying27 rfl (by kernel_rfl)) rfl ?_
  exact er (bbw2 HB GE309 GE310)
 ·replace c3 := Bool.eq_false_iff.mpr c3
  subst c3
  replace H := ifF H
  simp only [Option.some.injEq, Prod.mk.injEq] at H
  obtain ⟨rfl, rfl, rfl⟩ := H
  go_enter Tryz.func60, Tryz.ntmps60
  go_wp2_with (first | ((with_reducible refine gd 1 rfl ?_); refine bx #[.int .i64 a0_0, .int .i64 a0_1] 27 ?_; intro gb309 hg w11 BK309 hb; have GE309 := ngw0 hg HB; replace HB := bS0 HB hb; clear hb hg) | ((with_reducible refine gd 2 rfl ?_); refine bx #[.int .i64 0, .int .i64 0] 27 ?_; intro gb310 hg w12 BK310 hb; have GE310 := ngw1 hg HB GE309; replace HB := bS1 HB GE309 hb; have NB309_310 := nlt hg BK309; have NB310_309 := nsy (nlt hg BK309); replace BK309 := bB BK309 hb; clear hb hg; have hnb13 := NB309_310.out; have hnc13 := NB310_309.out; obtain ⟨hcz14_0, hcz14_1, hfz14_0, hfz14_1⟩ := bz2 BK309) | ((with_reducible refine gate_callee (f := 41) rfl ?_); refine gl 5 Tryz.func41 #[.agg #[.int .i64 a0_0, .int .i64 a0_1]] ?_; (with_reducible refine (spec_IsVec.calls _ _ _ _ A2.out).mono ?_); rintro e w15 ⟨rfl, hb⟩; refine ⟨_, rfl, ?_⟩; replace BK309 := bB BK309 hb; replace BK310 := bB BK310 hb; replace HB := bS2 HB GE309 GE310 hb; (try clear hb); obtain ⟨hcz16_0, hcz16_1, hfz16_0, hfz16_1⟩ := bz2 BK310))
  refine bodyPost_ret (results_ct rfl _ _ gb310 27 #[.int .i64 0, .int .i64 0] (0, 0) _ rfl (bq0 BK310) Tryz.underlying27 rfl (by kernel_rfl)) rfl ?_
  exact er (bbw2 HB GE309 GE310)
/-! ### spec_l01Divisor: function 91 -/
def spec_l01Divisor.f : Nat → Int → Int → Option (Int)
 | 0, _, _ => none
 | k + 1, a0, a1 => if a1 = 0 then (some (mx a0 (wrap64 (-a0)))) else ((spec_l01Divisor.f k a1 (Int.tmod a0 a1)).bind fun t312 => (some t312))
set_option maxHeartbeats 8000000 in
set_option maxRecDepth 100000 in
theorem spec_l01Divisor.calls (k : Nat) : ∀ (a0 : Int) (a1 : Int) (r : Int) (w : World) (h : spec_l01Divisor.f k a0 a1 = some r),
  Calls Tryz.prog 91 #[.int .i64 a0, .int .i64 a1] w fun e w' => e = .returned (.int .i64 r) ∧ Below w.heap.size w w' := by
 induction k using Nat.strongRecOn with
 | _ k ih =>
 intro a0 a1 r w h
 cases k with
 | zero => exact absurd h (by simp [spec_l01Divisor.f])
 | succ k =>
 simp only [spec_l01Divisor.f] at h
 have HB := asd (Below.refl w.heap.size w)
 have H : (if a1 = 0 then (some (mx a0 (wrap64 (-a0)))) else ((spec_l01Divisor.f k a1 (Int.tmod a0 a1)).bind fun t312 => (some t312))) = some r := h
 clear h
 by_cases c3 : a1 = 0
 ·rw [if_pos c3] at H
  have c3b0 : (a1 == 0) = true := beq_iff_eq.mpr c3
  have c3b1 : (a1 != 0) = false := bne_eq_false_iff_eq.mpr c3
  clear c3
  obtain ⟨ji4, hji4⟩ : ∃ j_ : Int, (mx a0 (wrap64 (-a0))) = j_ := ⟨_, rfl⟩
  replace H : (some ji4) = some r := by first | (rw [hji4] at H; first | done | exact H) | (simp only [hji4] at H ⊢; exact H)
  have hji4_ : (if a0 < (wrap64 (-a0)) then (wrap64 (-a0)) else a0) = ji4 := hji4
  obtain rfl := Option.some.inj H
  go_enter Tryz.func91, Tryz.ntmps91
  go_wp2
  go_ret
  exact ⟨by first | rfl | (simp [errW_none, errW_some] <;> rfl) | (simp only [← hji4]; first | rfl | (simp [errW_none, errW_some] <;> rfl)) | (simp [*, errW_none, errW_some] <;> rfl), bbw0 HB⟩
 ·rw [if_neg c3] at H
  have c3b0 : (a1 == 0) = false := beq_eq_false_iff_ne.mpr c3
  have c3b1 : (a1 != 0) = true := bne_iff_ne.mpr c3
  obtain ⟨t312, A5, H⟩ := ob H
  try dsimp only at H
  obtain rfl := Option.some.inj H
  go_enter Tryz.func91, Tryz.ntmps91
  go_wp2_with (first | ((with_reducible refine gate_callee (f := 91) rfl ?_); refine gl 15 Tryz.func91 #[.int .i64 a1, .int .i64 (Int.tmod a0 a1)] ?_; (with_reducible refine (ih k (by omega) a1 (Int.tmod a0 a1) t312 _ A5.out).mono ?_); rintro e w6 ⟨rfl, hb⟩; refine ⟨_, rfl, ?_⟩; replace HB := bS0 HB hb; (try clear hb)))
  go_ret
  exact er (bbw0 HB)
/-! ### spec_l01Less: function 101 -/
def spec_l01Less.f (a0_0 : Int) (a0_1 : Int) (a1_0 : Int) (a1_1 : Int) : Option (Bool) := if a0_0 < a1_0 then (some true) else (if a0_0 = a1_0 then (some (decide (a0_1 < a1_1))) else (some false))
set_option maxHeartbeats 8000000 in
set_option maxRecDepth 100000 in
theorem spec_l01Less.calls (a0_0 : Int) (a0_1 : Int) (a1_0 : Int) (a1_1 : Int) (r : Bool) (w : World) (h : spec_l01Less.f a0_0 a0_1 a1_0 a1_1 = some r) :
  Calls Tryz.prog 101 #[.agg #[.int .i64 a0_0, .int .i64 a0_1], .agg #[.int .i64 a1_0, .int .i64 a1_1]] w fun e w' => e = .returned (.bool r) ∧ Below w.heap.size w w' := by
 have hu27 := Tryz.underlying27
 have HB := asd (Below.refl w.heap.size w)
 have H : (if a0_0 < a1_0 then (some true) else (if a0_0 = a1_0 then (some (decide (a0_1 < a1_1))) else (some false))) = some r := h
 clear h
 by_cases c3 : a0_0 < a1_0
 rw [if_pos c3] at H
 have c3b0 := decide_eq_true c3
 clear c3
 obtain rfl := Option.some.inj H
 rotate_left
 rw [if_neg c3] at H
 have c3b0 := decide_eq_false c3
 clear c3
 by_cases c9 : a0_0 = a1_0
 rw [if_pos c9] at H
 have c9b0 : (a0_0 == a1_0) = true := beq_iff_eq.mpr c9
 have c9b1 : (a0_0 != a1_0) = false := bne_eq_false_iff_eq.mpr c9
 clear c9
 obtain rfl := Option.some.inj H
 rotate_left
 rw [if_neg c9] at H
 have c9b0 : (a0_0 == a1_0) = false := beq_eq_false_iff_ne.mpr c9
 have c9b1 : (a0_0 != a1_0) = true := bne_iff_ne.mpr c9
 obtain rfl := Option.some.inj H
 rotate_left
 all_goals
  go_enter Tryz.func101, Tryz.ntmps101
  go_wp2_with (first | ((with_reducible refine gd 2 rfl ?_); refine bx #[.int .i64 a0_0, .int .i64 a0_1] 27 ?_; intro gb313 hg w4 BK313 hb; have GE313 := ngw0 hg HB; replace HB := bS0 HB hb; clear hb hg) | ((with_reducible refine gd 3 rfl ?_); refine bx #[.int .i64 a1_0, .int .i64 a1_1] 27 ?_; intro gb314 hg w5 BK314 hb; have GE314 := ngw1 hg HB GE313; replace HB := bS1 HB GE313 hb; have NB313_314 := nlt hg BK313; have NB314_313 := nsy (nlt hg BK313); replace BK313 := bB BK313 hb; clear hb hg; have hnb6 := NB313_314.out; have hnc6 := NB314_313.out; obtain ⟨hcz7_0, hcz7_1, hfz7_0, hfz7_1⟩ := bz2 BK313; obtain ⟨hcz8_0, hcz8_1, hfz8_0, hfz8_1⟩ := bz2 BK314))
  go_ret
  exact er (bbw2 HB GE313 GE314)
/-! ### spec_l01Scale: function 102 -/
def spec_l01Scale.f (a0_0 : Int) (a0_1 : Int) (a1 : Int) : Option (Int × Int) := some (wrap64 (a1 * a0_0), wrap64 (a1 * a0_1))
set_option maxHeartbeats 8000000 in
set_option maxRecDepth 100000 in
theorem spec_l01Scale.calls (a0_0 : Int) (a0_1 : Int) (a1 : Int) (r1 : Int) (r2 : Int) (w : World) (h : spec_l01Scale.f a0_0 a0_1 a1 = some (r1, r2)) :
  Calls Tryz.prog 102 #[.agg #[.int .i64 a0_0, .int .i64 a0_1], .int .i64 a1] w fun e w' => e = .returned (.agg #[.int .i64 r1, .int .i64 r2]) ∧ Below w.heap.size w w' := by
 have hu27 := Tryz.underlying27
 have HB := asd (Below.refl w.heap.size w)
 have H : (some (wrap64 (a1 * a0_0), wrap64 (a1 * a0_1))) = some (r1, r2) := h
 clear h
 simp only [Option.some.injEq, Prod.mk.injEq] at H
 obtain ⟨rfl, rfl⟩ := H
 go_enter Tryz.func102, Tryz.ntmps102
 go_wp2_with (first | ((with_reducible refine gd 2 rfl ?_); refine bx #[.int .i64 a0_0, .int .i64 a0_1] 27 ?_; intro gb315 hg w3 BK315 hb; have GE315 := ngw0 hg HB; replace HB := bS0 HB hb; clear hb hg) | ((with_reducible refine gd 4 rfl ?_); refine bx #[.int .i64 0, .int .i64 0] 27 ?_; intro gb316 hg w4 BK316 hb; have GE316 := ngw1 hg HB GE315; replace HB := bS1 HB GE315 hb; have NB315_316 := nlt hg BK315; have NB316_315 := nsy (nlt hg BK315); replace BK315 := bB BK315 hb; clear hb hg; have hnb5 := NB315_316.out; have hnc5 := NB316_315.out; obtain ⟨hcz6_0, hcz6_1, hfz6_0, hfz6_1⟩ := bz2 BK315; obtain ⟨hcz7_0, hcz7_1, hfz7_0, hfz7_1⟩ := bz2 BK316))
 refine bodyPost_ret (results_cell_row rfl _ _ gb316 27 #[.int .i64 (wrap64 (a1 * a0_0)), .int .i64 (wrap64 (a1 * a0_1))] (0, 0) _ rfl (bq0 BK316) Tryz.underlying27 rfl (by kernel_rfl)) rfl ?_
 exact er (bbw2 HB GE315 GE316)
/-! ### spec_l02Axis: function 61 -/
def spec_l02Axis.j0 : Nat → Int → Int → Option (Int × Int)
 | 0, _, _ => none
 | k + 1, x320000, x320001 => (spec_l01Divisor.f k x320000 x320001).bind fun t320 => (if t320 = 0 then (none) else ((spec_l01Less.f (wrap64 (Int.tdiv x320000 t320)) (wrap64 (Int.tdiv x320001 t320)) 0 0).bind fun t321 => (if t321 = true then ((spec_l01Scale.f (wrap64 (Int.tdiv x320000 t320)) (wrap64 (Int.tdiv x320001 t320)) (-1)).bind fun bt322 => (some (bt322.1, bt322.2))) else (some (wrap64 (Int.tdiv x320000 t320), wrap64 (Int.tdiv x320001 t320))))))
def spec_l02Axis.f (k : Nat) (a0_0 : Int) (a0_1 : Int) (a0_2 : Int) (a0_3 : Int) : Option (Int × Int) := if ((wrap64 (a0_0 + 1)) == 0 && (a0_2 == 0)) = true then (spec_l02Axis.j0 k a0_1 (wrap64 (a0_3 + 1))) else (spec_l02Axis.j0 k (wrap64 (a0_0 + 1)) a0_2)
def spec_l02Axis.T5 : Bool × List (List Nat × List Nat) := (true, [([], []), ([0], [0]), ([], []), ([1, 2], [1, 2]), ([], []), ([4], [4]), ([], []), ([5, 6], [5, 6]), ([3, 7], [3, 7]), ([8, 0, 1, 2, 3, 4, 5, 6, 7, 8], [8])])
def spec_l02Axis.B5 : List Nat := [0, 1, 0, 7, 0, 16, 0, 112, 255, 511]
theorem spec_l02Axis.tab5 : rtab .any (opsOf Tryz.f61 5) = spec_l02Axis.T5 := by kernel_rfl
theorem spec_l02Axis.bits5 : waitsOk spec_l02Axis.T5.2 spec_l02Axis.B5 = true := by kernel_rfl
set_option maxHeartbeats 8000000 in
set_option maxRecDepth 100000 in
theorem spec_l02Axis.calls (k : Nat) (a0_0 : Int) (a0_1 : Int) (a0_2 : Int) (a0_3 : Int) (r1 : Int) (r2 : Int) (w : World) (h : spec_l02Axis.f k a0_0 a0_1 a0_2 a0_3 = some (r1, r2)) :
  Calls Tryz.prog 61 #[.agg #[.int .i64 a0_0, .int .i64 a0_1, .int .i64 a0_2, .int .i64 a0_3]] w fun e w' => e = .returned (.agg #[.int .i64 r1, .int .i64 r2]) ∧ Below w.heap.size w w' := by
 have hu25 := Tryz.underlying25
 have hu27 := Tryz.underlying27
 have HB := asd (Below.refl w.heap.size w)
 have H : (if ((wrap64 (a0_0 + 1)) == 0 && (a0_2 == 0)) = true then (spec_l02Axis.j0 k a0_1 (wrap64 (a0_3 + 1))) else (spec_l02Axis.j0 k (wrap64 (a0_0 + 1)) a0_2)) = some (r1, r2) := h
 clear h
 have HC2 := Aside0.mk H
 clear H
 go_enter Tryz.func61, Tryz.ntmps61
 go_upto_if 13 with (first | ((with_reducible refine gd 1 rfl ?_); refine bx #[.int .i64 a0_0, .int .i64 a0_1, .int .i64 a0_2, .int .i64 a0_3] 25 ?_; intro gb317 hg w3 BK317 hb; have GE317 := ngw0 hg HB; replace HB := bS0 HB hb; clear hb hg) | ((with_reducible refine gd 2 rfl ?_); refine bx #[.int .i64 0, .int .i64 0] 27 ?_; intro gb318 hg w4 BK318 hb; have GE318 := ngw1 hg HB GE317; replace HB := bS1 HB GE317 hb; have NB317_318 := nlt hg BK317; have NB318_317 := nsy (nlt hg BK317); replace BK317 := bB BK317 hb; clear hb hg; have hnb5 := NB317_318.out; have hnc5 := NB318_317.out; obtain ⟨hcz6_0, hcz6_1, hcz6_2, hcz6_3, hfz6_0, hfz6_1, hfz6_2, hfz6_3⟩ := bz4 BK317) | ((with_reducible refine gd 3 rfl ?_); refine bx #[.int .i64 0, .int .i64 0] 27 ?_; intro gb319 hg w7 BK319 hb; have GE319 := ngw2 hg HB GE317 GE318; replace HB := bS2 HB GE317 GE318 hb; have NB317_319 := nlt hg BK317; have NB319_317 := nsy (nlt hg BK317); replace BK317 := bB BK317 hb; have NB318_319 := nlt hg BK318; have NB319_318 := nsy (nlt hg BK318); replace BK318 := bB BK318 hb; clear hb hg; have hnb8 := NB319_317.out; have hnc8 := NB317_319.out; have hnb9 := NB319_318.out; have hnc9 := NB318_319.out; obtain ⟨hcz10_0, hcz10_1, hfz10_0, hfz10_1⟩ := bz2 BK319))
 (try simp only [Act.put, sA, sB, sC])
 go_cut [] (fun wc => ∃ (kq : Nat) (x320000_1 : Int) (x320001_1 : Int), Aside0 (spec_l02Axis.j0 kq x320000_1 x320001_1 = some (r1, r2)) ∧ Aside0 (kq ≤ k) ∧ Aside0 (wc.heap[gb317]? = some (.cells #[.int .i64 a0_0, .int .i64 a0_1, .int .i64 a0_2, .int .i64 a0_3] 25 (0, 0))) ∧ Aside0 (wc.heap[gb318]? = some (.cells #[.int .i64 0, .int .i64 0] 27 (0, 0))) ∧ Aside0 (wc.heap[gb319]? = some (.cells #[.int .i64 x320000_1, .int .i64 x320001_1] 27 (0, 0))) ∧ Aside0 (Below w.heap.size w wc))
 case first =>
  have H := HC2.out
  clear HC2
  by_cases c11 : ((wrap64 (a0_0 + 1)) == 0 && (a0_2 == 0)) = true
  ·rw [if_pos c11] at H
   have c11b0 := c11
   (try (have c11b1 : decide ((wrap64 (a0_0 + 1)) = 0 && (a0_2 == 0)) = true := by simpa using c11))
   (try (have c11b2 : ((wrap64 (a0_0 + 1)) == 0 && (a0_2 == 0)) = true := by simpa using c11))
   clear c11
   (first | rw [c11b0] | (simp only [i64_w, i32_w]; rw [c11b0]) | skip)
   have H' := Aside0.mk H
   clear H
   have hnb12 := NB317_318.out
   have hnc12 := NB318_317.out
   have hnb13 := NB317_319.out
   have hnc13 := NB319_317.out
   obtain ⟨hcz14_0, hcz14_1, hcz14_2, hcz14_3, hfz14_0, hfz14_1, hfz14_2, hfz14_3⟩ := bz4 BK317
   have hnb15 := NB319_318.out
   have hnc15 := NB318_319.out
   obtain ⟨hcz16_0, hcz16_1, hfz16_0, hfz16_1⟩ := bz2 BK319
   go_wp2
   go_meet
   case rel => exact ⟨_, (a0_1), (wrap64 (a0_3 + 1)), H', ⟨by first | omega | exact Nat.le_refl _⟩, ⟨bq1 BK317 NB317_319⟩, ⟨bq1 BK318 NB318_319⟩, ⟨bq0 BK319⟩, ⟨bbw3 HB GE317 GE318 GE319⟩⟩
  ·rw [if_neg c11] at H
   have c11b0 : ((wrap64 (a0_0 + 1)) == 0 && (a0_2 == 0)) = false := by simpa using c11
   (try (have c11b1 : decide ((wrap64 (a0_0 + 1)) = 0 && (a0_2 == 0)) = false := by simpa using c11))
   (try (have c11b2 : ((wrap64 (a0_0 + 1)) == 0 && (a0_2 == 0)) = false := by simpa using c11))
   (try (have c11b3 : ¬ ((wrap64 (a0_0 + 1)) = 0 && (a0_2 == 0)) := by simpa using c11))
   clear c11
   (first | rw [c11b0] | (simp only [i64_w, i32_w]; rw [c11b0]) | skip)
   have H' := Aside0.mk H
   clear H
   go_wp2
   go_meet
   case rel => exact ⟨_, (wrap64 (a0_0 + 1)), (a0_2), H', ⟨by first | omega | exact Nat.le_refl _⟩, ⟨bq1 BK317 NB317_319⟩, ⟨bq1 BK318 NB318_319⟩, ⟨bq0 BK319⟩, ⟨bbw3 HB GE317 GE318 GE319⟩⟩
 case rest =>
  clear HC2
  try clear c1
  try clear p2
  try clear c5
  try clear c6
  try clear p6
  try clear c8
  try clear c9
  try clear c11
  try clear c11b0
  try clear c11b1
  try clear c11b2
  try clear c12
  try clear c13
  try clear c15
  try clear hcz10_0
  try clear hcz10_1
  try clear hcz14_0
  try clear hcz14_1
  try clear hcz14_2
  try clear hcz14_3
  try clear hcz16_0
  try clear hcz16_1
  try clear hcz6_0
  try clear hcz6_1
  try clear hcz6_2
  try clear hcz6_3
  try clear hfz10_0
  try clear hfz10_1
  try clear hfz14_0
  try clear hfz14_1
  try clear hfz14_2
  try clear hfz14_3
  try clear hfz16_0
  try clear hfz16_1
  try clear hfz6_0
  try clear hfz6_1
  try clear hfz6_2
  try clear hfz6_3
  obtain ⟨kq, x320000_1, x320001_1, HA, HJ1, BK317, BK318, BK319, HB⟩ := hcut
  cases kq with
  | zero => exact absurd HA.out (by simp [spec_l02Axis.j0])
  | succ kj1 =>
   have H := HA.out
   clear HA
   simp only [spec_l02Axis.j0] at H
   obtain ⟨t320, A17, H⟩ := ob H
   try dsimp only at H
   by_cases c18 : t320 = 0
   ·rw [if_pos c18] at H
    exact absurd H (by simp)
   rw [if_neg c18] at H
   have c18b0 : (t320 == 0) = false := beq_eq_false_iff_ne.mpr c18
   have c18b1 : (t320 != 0) = true := bne_iff_ne.mpr c18
   obtain ⟨t321, A19, H⟩ := ob H
   try dsimp only at H
   by_cases c20 : t321 = true
   subst c20
   replace H := ifT H
   obtain ⟨⟨t322, t323⟩, A21, H⟩ := ob H
   try dsimp only at H
   rotate_left
   replace c20 := Bool.eq_false_iff.mpr c20
   subst c20
   replace H := ifF H
   rotate_left
   all_goals
    simp only [Option.some.injEq, Prod.mk.injEq] at H
    obtain ⟨rfl, rfl⟩ := H
    have hnb22 := NB319_317.out
    have hnc22 := NB317_319.out
    have hnb23 := NB319_318.out
    have hnc23 := NB318_319.out
    obtain ⟨hcz24_0, hcz24_1, hfz24_0, hfz24_1⟩ := bz2 BK319
    try go_wp2_with (first | ((with_reducible refine gate_callee (f := 91) rfl ?_); refine gl 24 Tryz.func91 #[.int .i64 x320000_1, .int .i64 x320001_1] ?_; (with_reducible refine (spec_l01Divisor.calls _ _ _ _ _ A17.out).mono ?_); rintro e w25 ⟨rfl, hb⟩; refine ⟨_, rfl, ?_⟩; replace BK317 := bB BK317 hb; replace BK318 := bB BK318 hb; replace BK319 := bB BK319 hb; replace HB := bS3 HB GE317 GE318 GE319 hb; (try clear hb)))
    replace BK317 := asd (blk_drew BK317.out)
    replace BK318 := asd (blk_drew BK318.out)
    replace BK319 := asd (blk_drew BK319.out)
    replace HB := asd (below_drew1 HB.out)
    refine start_ (n := 10) (S := fun w' => w'.cell? ⟨gb319, 0, none⟩ = some (.int .i64 x320000_1) ∧ w'.cell? ⟨gb319, 1, none⟩ = some (.int .i64 x320001_1)) (ds := [9]) (bT 10 0) (by kernel_rfl) rfl rfl ⟨bcl BK319 0, bcl BK319 1⟩ (fun hHeld => ?_); refine with_tabW spec_l02Axis.tab5 spec_l02Axis.bits5 (fun HT_ HW_ => ?_)
    generalize w25.drew = w26 at BK317 BK318 BK319 HB hHeld ⊢
    refine pu 0 (some 25) (bT 10 1) HT_ ?_
    refine pu 2 (some 27) (bs 10 5) HT_ ?_
    refine pu 4 (some 29) (bs 10 21) HT_ ?_
    refine pu 6 (some 31) (bs 10 85) HT_ ?_
    refine ta 1 (some 26) (bs 10 87) HT_ HW_ hHeld ?_
    refine pu 3 (some 28) (bs 10 95) HT_ ?_
    refine ta 5 (some 30) (bT 10 7) HT_ HW_ hHeld ?_
    refine pu 7 (some 32) (bT 10 8) HT_ ?_
    refine pu 8 (some 33) (bT 10 9) HT_ ?_
    refine last_ (i := 9) (N := none) (bT 10 10) rfl rfl (one_of HT_.out (by kernel_rfl)) (by decide) (fun K hK => ?_)
    have hs27 : w26.cell? ⟨gb319, 0, none⟩ = some (.int .i64 x320000_1) := bcl BK319 0
    have hfs27 := blk_frozen BK319.out 0
    have hns27_0 := NB317_319.out
    have hns27_1 := NB318_319.out
    have hms27_0 := NB319_317.out
    have hms27_1 := NB319_318.out
    have hs28 : w26.cell? ⟨gb319, 1, none⟩ = some (.int .i64 x320001_1) := bcl BK319 1
    have hfs28 := blk_frozen BK319.out 1
    have hns28_0 := NB317_319.out
    have hns28_1 := NB318_319.out
    have hms28_0 := NB319_317.out
    have hms28_1 := NB319_318.out
    refine skip_ (w1 := ?_) (by rfl) rfl ?_ ?_
    rotate_left
    ·go_simp
     rfl
    refine hK.out _ _ ?_
    clear hK K
    refine done_ (done_of HT_.out (by kernel_rfl)) ?_
    obtain ⟨hcz29_0, hcz29_1, hfz29_0, hfz29_1⟩ := bz2 BK319
   ·try go_wp2_with (first | ((with_reducible refine gate_callee (f := 101) rfl ?_); refine gl 36 Tryz.func101 #[.agg #[.int .i64 (wrap64 (Int.tdiv x320000_1 t320)), .int .i64 (wrap64 (Int.tdiv x320001_1 t320))], .agg #[.int .i64 0, .int .i64 0]] ?_; (with_reducible refine (spec_l01Less.calls _ _ _ _ _ _ A19.out).mono ?_); rintro e w30 ⟨rfl, hb⟩; refine ⟨_, rfl, ?_⟩; replace BK317 := asd (blk_below (g := gb317) (o := .cells #[.int .i64 a0_0, .int .i64 a0_1, .int .i64 a0_2, .int .i64 a0_3] 25 (0, 0)) (bq1 BK317 NB317_319) hb); replace BK318 := asd (blk_below (g := gb318) (o := .cells #[.int .i64 0, .int .i64 0] 27 (0, 0)) (bq1 BK318 NB318_319) hb); replace BK319 := asd (blk_below (g := gb319) (o := .cells #[.int .i64 (wrap64 (Int.tdiv x320000_1 t320)), .int .i64 (wrap64 (Int.tdiv x320001_1 t320))] 27 (0, 0)) (bq0 BK319) hb); replace HB := bS3 HB GE317 GE318 GE319 hb; (try clear hb); obtain ⟨hcz31_0, hcz31_1, hfz31_0, hfz31_1⟩ := bz2 BK319) | ((with_reducible refine gate_callee (f := 102) rfl ?_); refine gl 38 Tryz.func102 #[.agg #[.int .i64 (wrap64 (Int.tdiv x320000_1 t320)), .int .i64 (wrap64 (Int.tdiv x320001_1 t320))], .int .i64 (-1)] ?_; (with_reducible refine (spec_l01Scale.calls _ _ _ _ _ _ A21.out).mono ?_); rintro e w32 ⟨rfl, hb⟩; refine ⟨_, rfl, ?_⟩; replace BK317 := bB BK317 hb; replace BK318 := bB BK318 hb; replace BK319 := bB BK319 hb; replace HB := bS3 HB GE317 GE318 GE319 hb; (try clear hb); obtain ⟨hcz33_0, hcz33_1, hfz33_0, hfz33_1⟩ := bz2 BK319; have hnb34 := NB318_317.out; have hnc34 := NB317_318.out; obtain ⟨hcz35_0, hcz35_1, hfz35_0, hfz35_1⟩ := bz2 BK318))
    refine bodyPost_ret (results_cell_row rfl _ _ gb318 27 #[.int .i64 t322, .int .i64 t323] (0, 0) _ rfl (bq1 BK318 NB318_319) Tryz.underlying27 rfl (by kernel_rfl)) rfl ?_
    exact er (bbw3 HB GE317 GE318 GE319)
   ·try go_wp2_with (first | ((with_reducible refine gate_callee (f := 101) rfl ?_); refine gl 36 Tryz.func101 #[.agg #[.int .i64 (wrap64 (Int.tdiv x320000_1 t320)), .int .i64 (wrap64 (Int.tdiv x320001_1 t320))], .agg #[.int .i64 0, .int .i64 0]] ?_; (with_reducible refine (spec_l01Less.calls _ _ _ _ _ _ A19.out).mono ?_); rintro e w44 ⟨rfl, hb⟩; refine ⟨_, rfl, ?_⟩; replace BK317 := asd (blk_below (g := gb317) (o := .cells #[.int .i64 a0_0, .int .i64 a0_1, .int .i64 a0_2, .int .i64 a0_3] 25 (0, 0)) (bq1 BK317 NB317_319) hb); replace BK318 := asd (blk_below (g := gb318) (o := .cells #[.int .i64 0, .int .i64 0] 27 (0, 0)) (bq1 BK318 NB318_319) hb); replace BK319 := asd (blk_below (g := gb319) (o := .cells #[.int .i64 (wrap64 (Int.tdiv x320000_1 t320)), .int .i64 (wrap64 (Int.tdiv x320001_1 t320))] 27 (0, 0)) (bq0 BK319) hb); replace HB := bS3 HB GE317 GE318 GE319 hb; (try clear hb); obtain ⟨hcz45_0, hcz45_1, hfz45_0, hfz45_1⟩ := bz2 BK319; have hnb46 := NB318_317.out; have hnc46 := NB317_318.out; obtain ⟨hcz47_0, hcz47_1, hfz47_0, hfz47_1⟩ := bz2 BK318))
    refine bodyPost_ret (results_cell_row rfl _ _ gb318 27 #[.int .i64 (wrap64 (Int.tdiv x320000_1 t320)), .int .i64 (wrap64 (Int.tdiv x320001_1 t320))] (0, 0) _ rfl (bq0 BK318) Tryz.underlying27 rfl (by kernel_rfl)) rfl ?_
    exact er (bbw3 HB GE317 GE318 GE319)
/-! ### spec_AxisOf: function 17 -/
def spec_AxisOf.f (k : Nat) (a0_0 : Int) (a0_1 : Int) (a0_2 : Int) (a0_3 : Int) : Option (Int × Int × Int) := (spec_IsMat.f a0_0 a0_1 a0_2 a0_3).bind fun t326 => (if t326 = true then ((spec_l02Kind.f k a0_0 a0_1 a0_2 a0_3).bind fun t327 => (if t327 = (-2) then ((spec_l02Axis.f k a0_0 a0_1 a0_2 a0_3).bind fun bt328 => ((spec_l01Result.f bt328.1 bt328.2).bind fun bt330 => (some (bt330.1, bt330.2.1, bt330.2.2)))) else (some (0, 0, 5)))) else (some (0, 0, 1)))
set_option maxHeartbeats 8000000 in
set_option maxRecDepth 100000 in
theorem spec_AxisOf.calls (k : Nat) (a0_0 : Int) (a0_1 : Int) (a0_2 : Int) (a0_3 : Int) (r1 : Int) (r2 : Int) (r3 : Int) (w : World) (h : spec_AxisOf.f k a0_0 a0_1 a0_2 a0_3 = some (r1, r2, r3)) :
  Calls Tryz.prog 17 #[.agg #[.int .i64 a0_0, .int .i64 a0_1, .int .i64 a0_2, .int .i64 a0_3]] w fun e w' => e = .returned (.tuple #[.agg #[.int .i64 r1, .int .i64 r2], .int .i64 r3]) ∧ Below w.heap.size w w' := by
 have hu25 := Tryz.underlying25
 have hu27 := Tryz.underlying27
 have HB := asd (Below.refl w.heap.size w)
 have H : ((spec_IsMat.f a0_0 a0_1 a0_2 a0_3).bind fun t326 => (if t326 = true then ((spec_l02Kind.f k a0_0 a0_1 a0_2 a0_3).bind fun t327 => (if t327 = (-2) then ((spec_l02Axis.f k a0_0 a0_1 a0_2 a0_3).bind fun bt328 => ((spec_l01Result.f bt328.1 bt328.2).bind fun bt330 => (some (bt330.1, bt330.2.1, bt330.2.2)))) else (some (0, 0, 5)))) else (some (0, 0, 1)))) = some (r1, r2, r3) := h
 clear h
 obtain ⟨t326, A2, H⟩ := ob H
 try dsimp only at H
 by_cases c3 : t326 = true
 ·subst c3
  replace H := ifT H
  obtain ⟨t327, A4, H⟩ := ob H
  try dsimp only at H
  by_cases c5 : t327 = (-2)
  ·rw [if_pos c5] at H
   have c5b0 : (t327 == (-2)) = true := beq_iff_eq.mpr c5
   have c5b1 : (t327 != (-2)) = false := bne_eq_false_iff_eq.mpr c5
   clear c5
   obtain ⟨⟨t328, t329⟩, A6, H⟩ := ob H
   try dsimp only at H
   obtain ⟨⟨t330, t331, t332⟩, A7, H⟩ := ob H
   try dsimp only at H
   simp only [Option.some.injEq, Prod.mk.injEq] at H
   obtain ⟨rfl, rfl, rfl⟩ := H
   go_enter Tryz.func17, Tryz.ntmps17
   go_wp2_with (first | ((with_reducible refine gd 1 rfl ?_); refine bx #[.int .i64 a0_0, .int .i64 a0_1, .int .i64 a0_2, .int .i64 a0_3] 25 ?_; intro gb324 hg w8 BK324 hb; have GE324 := ngw0 hg HB; replace HB := bS0 HB hb; clear hb hg) | ((with_reducible refine gd 2 rfl ?_); refine bx #[.int .i64 0, .int .i64 0] 27 ?_; intro gb325 hg w9 BK325 hb; have GE325 := ngw1 hg HB GE324; replace HB := bS1 HB GE324 hb; have NB324_325 := nlt hg BK324; have NB325_324 := nsy (nlt hg BK324); replace BK324 := bB BK324 hb; clear hb hg; have hnb10 := NB324_325.out; have hnc10 := NB325_324.out; obtain ⟨hcz11_0, hcz11_1, hcz11_2, hcz11_3, hfz11_0, hfz11_1, hfz11_2, hfz11_3⟩ := bz4 BK324) | ((with_reducible refine gate_callee (f := 58) rfl ?_); refine gl 5 Tryz.func58 #[.agg #[.int .i64 a0_0, .int .i64 a0_1, .int .i64 a0_2, .int .i64 a0_3]] ?_; (with_reducible refine (spec_IsMat.calls _ _ _ _ _ _ A2.out).mono ?_); rintro e w12 ⟨rfl, hb⟩; refine ⟨_, rfl, ?_⟩; replace BK324 := bB BK324 hb; replace BK325 := bB BK325 hb; replace HB := bS2 HB GE324 GE325 hb; (try clear hb); obtain ⟨hcz13_0, hcz13_1, hcz13_2, hcz13_3, hfz13_0, hfz13_1, hfz13_2, hfz13_3⟩ := bz4 BK324) | ((with_reducible refine gate_callee (f := 59) rfl ?_); refine gl 9 Tryz.func59 #[.agg #[.int .i64 a0_0, .int .i64 a0_1, .int .i64 a0_2, .int .i64 a0_3]] ?_; (with_reducible refine (spec_l02Kind.calls _ _ _ _ _ _ _ A4.out).mono ?_); rintro e w14 ⟨rfl, hb⟩; refine ⟨_, rfl, ?_⟩; replace BK324 := bB BK324 hb; replace BK325 := bB BK325 hb; replace HB := bS2 HB GE324 GE325 hb; (try clear hb); obtain ⟨hcz15_0, hcz15_1, hcz15_2, hcz15_3, hfz15_0, hfz15_1, hfz15_2, hfz15_3⟩ := bz4 BK324) | ((with_reducible refine gate_callee (f := 61) rfl ?_); refine gl 13 Tryz.func61 #[.agg #[.int .i64 a0_0, .int .i64 a0_1, .int .i64 a0_2, .int .i64 a0_3]] ?_; (with_reducible refine (spec_l02Axis.calls _ _ _ _ _ _ _ _ A6.out).mono ?_); rintro e w16 ⟨rfl, hb⟩; refine ⟨_, rfl, ?_⟩; replace BK324 := bB BK324 hb; replace BK325 := bB BK325 hb; replace HB := bS2 HB GE324 GE325 hb; (try clear hb)) | ((with_reducible refine gate_callee (f := 60) rfl ?_); refine gl 14 Tryz.func60 #[.agg #[.int .i64 t328, .int .i64 t329]] ?_; (with_reducible refine (spec_l01Result.calls _ _ _ _ _ _ A7.out).mono ?_); rintro e w17 ⟨rfl, hb⟩; refine ⟨_, rfl, ?_⟩; replace BK324 := bB BK324 hb; replace BK325 := bB BK325 hb; replace HB := bS2 HB GE324 GE325 hb; (try clear hb); obtain ⟨hcz18_0, hcz18_1, hfz18_0, hfz18_1⟩ := bz2 BK325))
   refine bodyPost_ret (results_ct rfl _ _ gb325 27 #[.int .i64 t330, .int .i64 t331] (0, 0) _ rfl (bq0 BK325) Tryz.underlying27 rfl (by kernel_rfl)) rfl ?_
   exact er (bbw2 HB GE324 GE325)
  ·rw [if_neg c5] at H
   have c5b0 : (t327 == (-2)) = false := beq_eq_false_iff_ne.mpr c5
   have c5b1 : (t327 != (-2)) = true := bne_iff_ne.mpr c5
   simp only [Option.some.injEq, Prod.mk.injEq] at H
   obtain ⟨rfl, rfl, rfl⟩ := H
   go_enter Tryz.func17, Tryz.ntmps17
   go_wp2_with (first | ((with_reducible refine gd 1 rfl ?_); refine bx #[.int .i64 a0_0, .int .i64 a0_1, .int .i64 a0_2, .int .i64 a0_3] 25 ?_; intro gb324 hg w19 BK324 hb; have GE324 := ngw0 hg HB; replace HB := bS0 HB hb; clear hb hg) | ((with_reducible refine gd 2 rfl ?_); refine bx #[.int .i64 0, .int .i64 0] 27 ?_; intro gb325 hg w20 BK325 hb; have GE325 := ngw1 hg HB GE324; replace HB := bS1 HB GE324 hb; have NB324_325 := nlt hg BK324; have NB325_324 := nsy (nlt hg BK324); replace BK324 := bB BK324 hb; clear hb hg; have hnb21 := NB324_325.out; have hnc21 := NB325_324.out; obtain ⟨hcz22_0, hcz22_1, hcz22_2, hcz22_3, hfz22_0, hfz22_1, hfz22_2, hfz22_3⟩ := bz4 BK324) | ((with_reducible refine gate_callee (f := 58) rfl ?_); refine gl 5 Tryz.func58 #[.agg #[.int .i64 a0_0, .int .i64 a0_1, .int .i64 a0_2, .int .i64 a0_3]] ?_; (with_reducible refine (spec_IsMat.calls _ _ _ _ _ _ A2.out).mono ?_); rintro e w23 ⟨rfl, hb⟩; refine ⟨_, rfl, ?_⟩; replace BK324 := bB BK324 hb; replace BK325 := bB BK325 hb; replace HB := bS2 HB GE324 GE325 hb; (try clear hb); obtain ⟨hcz24_0, hcz24_1, hcz24_2, hcz24_3, hfz24_0, hfz24_1, hfz24_2, hfz24_3⟩ := bz4 BK324) | ((with_reducible refine gate_callee (f := 59) rfl ?_); refine gl 9 Tryz.func59 #[.agg #[.int .i64 a0_0, .int .i64 a0_1, .int .i64 a0_2, .int .i64 a0_3]] ?_; (with_reducible refine (spec_l02Kind.calls _ _ _ _ _ _ _ A4.out).mono ?_); rintro e w25 ⟨rfl, hb⟩; refine ⟨_, rfl, ?_⟩; replace BK324 := bB BK324 hb; replace BK325 := bB BK325 hb; replace HB := bS2 HB GE324 GE325 hb; (try clear hb); obtain ⟨hcz26_0, hcz26_1, hfz26_0, hfz26_1⟩ := bz2 BK325))
   refine bodyPost_ret (results_ct rfl _ _ gb325 27 #[.int .i64 0, .int .i64 0] (0, 0) _ rfl (bq0 BK325) Tryz.underlying27 rfl (by kernel_rfl)) rfl ?_
   exact er (bbw2 HB GE324 GE325)
 ·replace c3 := Bool.eq_false_iff.mpr c3
  subst c3
  replace H := ifF H
  simp only [Option.some.injEq, Prod.mk.injEq] at H
  obtain ⟨rfl, rfl, rfl⟩ := H
  go_enter Tryz.func17, Tryz.ntmps17
  go_wp2_with (first | ((with_reducible refine gd 1 rfl ?_); refine bx #[.int .i64 a0_0, .int .i64 a0_1, .int .i64 a0_2, .int .i64 a0_3] 25 ?_; intro gb324 hg w27 BK324 hb; have GE324 := ngw0 hg HB; replace HB := bS0 HB hb; clear hb hg) | ((with_reducible refine gd 2 rfl ?_); refine bx #[.int .i64 0, .int .i64 0] 27 ?_; intro gb325 hg w28 BK325 hb; have GE325 := ngw1 hg HB GE324; replace HB := bS1 HB GE324 hb; have NB324_325 := nlt hg BK324; have NB325_324 := nsy (nlt hg BK324); replace BK324 := bB BK324 hb; clear hb hg; have hnb29 := NB324_325.out; have hnc29 := NB325_324.out; obtain ⟨hcz30_0, hcz30_1, hcz30_2, hcz30_3, hfz30_0, hfz30_1, hfz30_2, hfz30_3⟩ := bz4 BK324) | ((with_reducible refine gate_callee (f := 58) rfl ?_); refine gl 5 Tryz.func58 #[.agg #[.int .i64 a0_0, .int .i64 a0_1, .int .i64 a0_2, .int .i64 a0_3]] ?_; (with_reducible refine (spec_IsMat.calls _ _ _ _ _ _ A2.out).mono ?_); rintro e w31 ⟨rfl, hb⟩; refine ⟨_, rfl, ?_⟩; replace BK324 := bB BK324 hb; replace BK325 := bB BK325 hb; replace HB := bS2 HB GE324 GE325 hb; (try clear hb); obtain ⟨hcz32_0, hcz32_1, hfz32_0, hfz32_1⟩ := bz2 BK325))
  refine bodyPost_ret (results_ct rfl _ _ gb325 27 #[.int .i64 0, .int .i64 0] (0, 0) _ rfl (bq0 BK325) Tryz.underlying27 rfl (by kernel_rfl)) rfl ?_
  exact er (bbw2 HB GE324 GE325)

/-! ### texts: function 99998 -/
/-- What the package-level variables that the library reads hold. -/
structure texts.Tab (w : World) : Prop where
 pow10 : Lib.TabIs Tryz.prog w "internal/strconv.uint64pow10" .u64 Lib.pow10Tab
 maxlen : ∃ m, w.cell? ⟨0, 0, none⟩ = some (.int .i64 m)
 errsyntax : ∃ ev, w.cell? ⟨2, 0, none⟩ = some ev ∧ (ev = .nilIface ∨ ∃ te pe, ev = .iface te pe)
 errrange : ∃ ev, w.cell? ⟨3, 0, none⟩ = some ev ∧ (ev = .nilIface ∨ ∃ te pe, ev = .iface te pe)
theorem texts.cell {w w' : World} {p : Addr} {v : Value} (hb : Below w.heap.size w w') (h : w.cell? p = some v) : w'.cell? p = w.cell? p := hb.cell (World.block_lt_of_cell? w _ h)
theorem texts.tabB {w w' : World} (h : texts.Tab w) (hb : Below w.heap.size w w') : texts.Tab w' :=
 ⟨Go.Joins.tab_stays (show Tryz.prog.globalNamed "internal/strconv.uint64pow10" = some 1 by kernel_rfl) h.pow10 hb (Nat.le_refl _), (let ⟨m, hm⟩ := h.maxlen; ⟨m, (texts.cell hb hm).trans hm⟩), (let ⟨m, hm, he⟩ := h.errsyntax; ⟨m, (texts.cell hb hm).trans hm, he⟩), (let ⟨m, hm, he⟩ := h.errrange; ⟨m, (texts.cell hb hm).trans hm, he⟩)⟩

/-! ### strconv_FormatInt: function 130 -/
/-- A number's text in decimal. -/
def strconv_FormatInt.f (a0 a1 : Int) : Option ByteArray := if (-9223372036854775808 ≤ a0 ∧ a0 ≤ 9223372036854775807) ∧ a1 = 10 then some ⟨(Lib.itoa a0).toArray⟩ else none
theorem strconv_FormatInt.calls (a0 a1 : Int) (r : ByteArray) (w : World) (htab : texts.Tab w) (h : strconv_FormatInt.f a0 a1 = some r) : Calls Tryz.prog 130 #[.int .i64 a0, .int .i64 a1] w fun e w' => e = .returned (.string r) ∧ Below w.heap.size w w' := by
 unfold strconv_FormatInt.f at h
 by_cases hc : (-9223372036854775808 ≤ a0 ∧ a0 ≤ 9223372036854775807) ∧ a1 = 10
 ·rw [if_pos hc] at h
  obtain ⟨⟨h0, h1⟩, rfl⟩ := hc
  obtain rfl := Option.some.inj h
  refine (Tryz.strconv_FormatInt_10 a0 h0 h1 w htab.pow10).mono ?_
  rintro e w' ⟨he, k, os, rfl⟩
  exact ⟨he, rfl, rfl, rfl, by show w.heap.size ≤ (w.heap ++ os).size; rw [Array.size_append]; omega, fun j hj => by show (w.heap ++ os)[j]? = w.heap[j]?; exact Array.getElem?_append_left hj⟩
 ·rw [if_neg hc] at h; cases h
/-! ### impl_text: function 103 -/
def impl_text.f (a0 : Int) : Option (ByteArray) := (strconv_FormatInt.f a0 10).bind fun t333 => (some t333)
set_option maxHeartbeats 8000000 in
set_option maxRecDepth 100000 in
theorem impl_text.calls (a0 : Int) (r : ByteArray) (w : World) (htab : texts.Tab w) (h : impl_text.f a0 = some r) :
  Calls Tryz.prog 103 #[.int .i64 a0] w fun e w' => e = .returned (.string r) ∧ Below w.heap.size w w' := by
 have HTAB := Aside0.mk htab
 clear htab
 have HB := asd (Below.refl w.heap.size w)
 have H : ((strconv_FormatInt.f a0 10).bind fun t333 => (some t333)) = some r := h
 clear h
 obtain ⟨t333, A2, H⟩ := ob H
 try dsimp only at H
 obtain rfl := Option.some.inj H
 go_enter Tryz.func103, Tryz.ntmps103
 go_wp2_with (first | ((with_reducible refine gate_callee (f := 130) rfl ?_); refine gl 4 Tryz.func130 #[.int .i64 a0, .int .i64 10] ?_; (with_reducible refine (strconv_FormatInt.calls _ _ _ _ (texts.tabB HTAB.out (by repeat (first | (with_reducible first | exact HB.out | exact Below.refl _ _ | apply below_alloc | apply pw_below_drewN | apply below_drew1) | exact HB.out))) A2.out).mono ?_); rintro e w3 ⟨rfl, hb⟩; refine ⟨_, rfl, ?_⟩; replace HB := bS0 HB hb; (try clear hb)))
 go_ret
 exact er (bbw0 HB)
/-! ### strings_Join: function 104 -/
/-- The elements with a text between them. -/
def strings_Join.f (l0 : List ByteArray) (a1 : ByteArray) : Option ByteArray := if l0.length ≤ 140737488355328 ∧ (Lib.join (l0.map (·.data.toList)) a1.data.toList).length ≤ 140737488355328 then some ⟨(Lib.join (l0.map (·.data.toList)) a1.data.toList).toArray⟩ else none
/-- A row of texts that lies in a block of its own. -/
def strings_Join.RC (w : World) (A : Option Addr) (xs : List ByteArray) : Prop := Kd.C Kd.string w A xs.length xs ∧ (xs = [] ∨ ∃ g, A = some ⟨g, 0, none⟩ ∧ g < w.heap.size)
theorem strings_Join.rows {e : Nat} {w : World} {base : Nat} {ok : Nat → Prop} {A : Option Addr} {c n : Nat} {xs : List ByteArray} (h : Kd.R Kd.string e w base ok (.slice A n c) xs) : strings_Join.RC w A xs := by
 have hC := (Kd.R_reads' h).2.2
 obtain ⟨inner, ho, hr⟩ := h.2
 rcases ho.2 with ⟨h1, h2⟩ | ⟨g, cap, cur, h1, _, hg, _⟩
 ·exact ⟨hC, Or.inl (List.eq_nil_of_length_eq_zero h2)⟩
 ·injection h1 with h3 h4 h5
  subst h3
  exact ⟨hC, Or.inr ⟨g, rfl, (Array.getElem?_eq_some_iff.1 hg).1⟩⟩
theorem strings_Join.calls (A0 : Option Addr) (c0 : Nat) (l0 : List ByteArray) (a1 : ByteArray) (r : ByteArray) (w : World) (hr0 : strings_Join.RC w A0 l0) (hc0 : l0.length ≤ c0) (h : strings_Join.f l0 a1 = some r) : Calls Tryz.prog 104 #[.slice A0 l0.length c0, .string a1] w fun e w' => e = .returned (.string r) ∧ Below w.heap.size w w' := by
 obtain ⟨hC, hg⟩ := hr0
 unfold strings_Join.f at h
 by_cases hc : l0.length ≤ 140737488355328 ∧ (Lib.join (l0.map (·.data.toList)) a1.data.toList).length ≤ 140737488355328
 ·rw [if_pos hc] at h
  obtain rfl := Option.some.inj h
  rcases hg with rfl | ⟨g, rfl, hlt⟩
  ·exact (Tryz.strings_Join_none A0 c0 a1 w).mono fun e w' ⟨he, hw⟩ => ⟨he, hw ▸ Below.refl _ _⟩
  ·refine Tryz.strings_Join g 0 c0 l0 a1 w (fun j x hx => ?_) hlt hc.1 hc0 hc.2
   have hj : 0 < l0.length := by
    have := (List.getElem?_eq_some_iff.1 hx).1
    omega
   obtain ⟨ad, e, hrow⟩ := hC.2.2 hj
   obtain rfl := Option.some.inj e
   obtain ⟨c, hlen, hK, hcell⟩ := hrow j x hx
   have hK : c = [.string x] := hK
   subst hK
   have := hcell 0 _ rfl
   rw [add_plain, show Kd.string.sz = 1 from rfl, Nat.mul_one, Nat.add_zero] at this
   rw [Nat.zero_add]; exact this
 ·rw [if_neg hc] at h; cases h
/-! ### impl_joined: function 62 -/
def impl_joined.l0 : Nat → ByteArray → List ByteArray → List Int → Int → Int → Option (ByteArray)
 | 0, _, _, _, _, _ => none
 | k + 1, x0, x5, x9, x10, x11 => if x11 < x10 then (if 0 ≤ x11 then (if x11 < (x9.length : Int) then ((impl_text.f (rd x9 x11)).bind fun t338 => (if x5.length < 8796093022208 then (impl_joined.l0 k x0 (x5 ++ [t338]) x9 x10 (wrap64 (x11 + 1))) else (none))) else (none)) else (none)) else ((strings_Join.f x5 x0).bind fun t342 => (some t342))
def impl_joined.f (k : Nat) (a0 : ByteArray) (l1 : List Int) : Option (ByteArray) := impl_joined.l0 k a0 (([] : List ByteArray)) l1 (l1.length : Int) 0
set_option maxHeartbeats 8000000 in
set_option maxRecDepth 100000 in
theorem impl_joined.calls (k : Nat) (a0 : ByteArray) (A1 : Option Addr) (c1 : Nat) (l1 : List Int) (r : ByteArray) (w : World) (hr1 : Kd.C (Kd.int .i64) w A1 l1.length l1) (hc1 : l1.length ≤ c1) (htab : texts.Tab w) (h : impl_joined.f k a0 l1 = some r) :
  Calls Tryz.prog 62 #[.string a0, .slice A1 l1.length c1] w fun e w' => e = .returned (.string r) ∧ Below w.heap.size w w' := by
 have HTAB := Aside0.mk htab
 clear htab
 have HR1 := Aside0.mk hr1
 have HC1 := Aside0.mk hc1
 clear hr1 hc1
 have HB := asd (Below.refl w.heap.size w)
 have H : (impl_joined.l0 k a0 (([] : List ByteArray)) l1 (l1.length : Int) 0) = some r := h
 clear h
 obtain ⟨y334, hy334⟩ : ∃ y_ : List ByteArray, y_ = (([] : List ByteArray)) := ⟨_, rfl⟩
 replace H : (impl_joined.l0 k a0 y334 l1 (l1.length : Int) 0) = some r := by first | (rw [hy334]; with_reducible exact H) | (have H2_ := (Option.bind_some _ _).symm.trans H; rw [hy334]; with_reducible exact H2_) | (have H2_ := (Option.bind_some _ _).symm.trans H; with_reducible exact H2_) | with_reducible exact H | (rw [hy334]; exact H) | exact H
 have Ny334 := Aside0.mk hy334
 clear hy334
 have H' := Aside0.mk H
 clear H
 go_enter Tryz.func62, Tryz.ntmps62
 go_wp2_with (first | ((with_reducible refine gd 8 rfl ?_); refine Kd.R_lit Kd.string _ 9 ?hg (N := 8) ?hd (xs := ([] : List ByteArray)) (inner := []) (ok := fun _ => True) (okp := fun _ => True) ?hr ?hp (fun _ hk => hk) trivial (Below.refl _ _) (Nat.le_refl _) (by simp) ?_; (case hd => rfl); (case hg => rfl); (case hr => first | (go_simp; done) | (go_simp; rfl)); (case hp => exact (Reps.none _ _)); intro v335 w3 ho4 hb hg_ hnew_; clear hg_ hnew_; (first | rw [← Ny334.out] at ho4 | (simp only [Int.reduceToNat] at ho4; rw [← Ny334.out] at ho4)); have HO336 := asd (Kd.R_lower ho4 (bsz0 HB)); replace HB := bS0 HB hb; clear hb ho4))
 go_loopg [5, 11] k (fun kq v5 v11 w' => ∃ (x5_1 : List ByteArray) (x11_1 : Int), v11 = .int .i64 x11_1 ∧ Aside0 (impl_joined.l0 kq a0 x5_1 l1 (l1.length : Int) x11_1 = some r) ∧ Aside0 (kq ≤ k) ∧ Aside0 (Kd.R Kd.string 9 w' w.heap.size (fun _ => True) v5 x5_1) ∧ Aside0 (Below w.heap.size w w'))
 case atStart => exact ⟨(y334), (0), (by first | rfl | (simp; done) | (simp [*]; done)), H', ⟨Nat.le_refl _⟩, ⟨by (with_reducible repeat (first | apply Kd.R_alloc | apply Kd.R_drewN | apply Kd.R_drew)); exact HO336.out⟩, ⟨bbw0 HB⟩⟩
 case round =>
  clear H'
  try clear c1
  try clear p2
  obtain ⟨x5_1, x11_1, rfl, HA, HK1, HO_5, HB⟩ := hrel
  cases gk with
  | zero => exact absurd HA.out (by simp [impl_joined.l0])
  | succ k1 =>
   have H := HA.out
   clear HA
   simp only [impl_joined.l0] at H
   by_cases c5 : x11_1 < (l1.length : Int)
   ·rw [if_pos c5] at H
    have c5b0 := decide_eq_true c5
    clear c5
    by_cases c6 : 0 ≤ x11_1
    ·rw [if_pos c6] at H
     have c6b0 := decide_eq_true c6
     clear c6
     by_cases c7 : x11_1 < (l1.length : Int)
     ·rw [if_pos c7] at H
      have c7b0 := decide_eq_true c7
      clear c7
      obtain ⟨t338, A8, H⟩ := ob H
      try dsimp only at H
      by_cases c9 : x5_1.length < 8796093022208
      ·rw [if_pos c9] at H
       have LMc9 := Aside0.mk c9
       clear c9
       obtain ⟨y339, hy339⟩ : ∃ y_ : List ByteArray, y_ = (x5_1 ++ [t338]) := ⟨_, rfl⟩
       replace H : (impl_joined.l0 k1 a0 y339 l1 (l1.length : Int) (wrap64 (x11_1 + 1))) = some r := by first | (rw [hy339]; with_reducible exact H) | (have H2_ := (Option.bind_some _ _).symm.trans H; rw [hy339]; with_reducible exact H2_) | (have H2_ := (Option.bind_some _ _).symm.trans H; with_reducible exact H2_) | with_reducible exact H | (rw [hy339]; exact H) | exact H
       have Ny339 := Aside0.mk hy339
       clear hy339
       have H' := Aside0.mk H
       clear H
       have p337 : 0 ≤ (x11_1 : Int) := od
       have q337 : x11_1 < (l1.length : Int) := od
       obtain ⟨ad337, e337, hx337_0⟩ := Kd.at_int HR1.out x11_1 p337 q337
       cases e337
       replace hx337_0 := xb HB hx337_0
       replace p337 := eq_true p337
       replace q337 := eq_true q337
       go_wp2_with (first | ((with_reducible refine gate_callee (f := 103) rfl ?_); refine gl 17 Tryz.func103 #[.int .i64 (rd l1 x11_1)] ?_; (with_reducible refine (impl_text.calls _ _ _ (texts.tabB HTAB.out (by repeat (first | (with_reducible first | exact HB.out | exact Below.refl _ _ | apply below_alloc | apply pw_below_drewN | apply below_drew1) | exact HB.out))) A8.out).mono ?_); rintro e w10 ⟨rfl, hb⟩; refine ⟨_, rfl, ?_⟩; replace HO_5 := asd (Kd.R_below (kr HO_5) hb); replace HB := bS0 HB hb; (try clear hb)) | ((with_reducible refine gate_builtin (b := .append) (xs := #[.tmp 15, .tmp 18]) rfl ?_); at_builtin; refine Kd.R_append Kd.string (w0 := w) w.heap.size rfl (.tmp 15) (.tmp 18) 73 9 (.string ⟨#[]⟩) 16 rfl Tryz.underlying73 info9 rfl (by decide) (by omega) u5 x5_1 t338 [.string t338] (fun _ => True) (fun _ => False) rfl rfl ?aP (fun _ hk => hk.elim) ?aF ?aO ?aB ?aS ?aL ?_; (case aP => exact rfl); (case aB => exact (bbw0 HB)); (case aF => exact (fun _ _ => trivial)); (case aO => exact (kr HO_5)); (case aS => exact (bsz0 HB)); (case aL => have := LMc9.out; omega); intro v340 w11 ho hb hg hat; rw [← Ny339.out] at ho; have n0_ := asd (hb); have n1_ := asd (ho); clear HB; clear HO_5; have HB := n0_; have HO341 := n1_; clear n0_ n1_; clear ho hb hg hat))
       go_roundg k1
       case measure => have := HK1.out; omega
       case rel => exact ⟨(y339), (wrap64 (x11_1 + 1)), (by first | rfl | (simp; done) | (simp [*]; done)), H', ⟨by have := HK1.out; omega⟩, ⟨by (with_reducible repeat (first | apply Kd.R_alloc | apply Kd.R_drewN | apply Kd.R_drew)); exact HO341.out⟩, ⟨bbw0 HB⟩⟩
      ·rw [if_neg c9] at H
       exact absurd H (by simp)
     ·rw [if_neg c7] at H
      exact absurd H (by simp)
    ·rw [if_neg c6] at H
     exact absurd H (by simp)
   ·rw [if_neg c5] at H
    have c5b0 := decide_eq_false c5
    clear c5
    obtain ⟨t342, A12, H⟩ := ob H
    try dsimp only at H
    obtain rfl := Option.some.inj H
    obtain ⟨Ao13, co13, eo13⟩ := Kd.R_slice HO_5.out
    subst eo13
    go_wp2_with (first | ((with_reducible refine gate_callee (f := 104) rfl ?_); refine gl 23 Tryz.func104 #[.slice Ao13 x5_1.length co13, .string a0] ?_; (with_reducible refine (strings_Join.calls _ _ _ _ _ _ ?side1 ?side2 A12.out).mono ?_); (case side1 => repeat (first | exact strings_Join.rows HO_5.out | (with_reducible refine Kd.C_alloc ?_ _) | (with_reducible refine Kd.C_drewN ?_ _) | (with_reducible refine Kd.C_drew ?_))); (case side2 => exact (Kd.R_reads' HO_5.out).2.1); rintro e w14 ⟨rfl, hb⟩; refine ⟨_, rfl, ?_⟩; replace HO_5 := asd (Kd.R_below (kr HO_5) hb); replace HB := bS0 HB hb; (try clear hb)))
    go_ret
    exact er (bbw0 HB)
/-! ### impl_MatText: function 18 -/
def impl_MatText.f (k : Nat) (a0_0 : Int) (a0_1 : Int) (a0_2 : Int) (a0_3 : Int) : Option (ByteArray) := (impl_IsMat.f a0_0 a0_1 a0_2 a0_3).bind fun t344 => (if t344 = true then ((impl_joined.f k (⟨#[44]⟩ : ByteArray) (([a0_0, a0_1, a0_2, a0_3] : List Int))).bind fun t348 => (some t348)) else (some (⟨#[]⟩ : ByteArray)))
set_option maxHeartbeats 8000000 in
set_option maxRecDepth 100000 in
theorem impl_MatText.calls (k : Nat) (a0_0 : Int) (a0_1 : Int) (a0_2 : Int) (a0_3 : Int) (r : ByteArray) (w : World) (htab : texts.Tab w) (h : impl_MatText.f k a0_0 a0_1 a0_2 a0_3 = some r) :
  Calls Tryz.prog 18 #[.agg #[.int .i64 a0_0, .int .i64 a0_1, .int .i64 a0_2, .int .i64 a0_3]] w fun e w' => e = .returned (.string r) ∧ Below w.heap.size w w' := by
 have HTAB := Aside0.mk htab
 clear htab
 have hu25 := Tryz.underlying25
 have HB := asd (Below.refl w.heap.size w)
 have H : ((impl_IsMat.f a0_0 a0_1 a0_2 a0_3).bind fun t344 => (if t344 = true then ((impl_joined.f k (⟨#[44]⟩ : ByteArray) (([a0_0, a0_1, a0_2, a0_3] : List Int))).bind fun t348 => (some t348)) else (some (⟨#[]⟩ : ByteArray)))) = some r := h
 clear h
 obtain ⟨t344, A2, H⟩ := ob H
 try dsimp only at H
 by_cases c3 : t344 = true
 ·subst c3
  replace H := ifT H
  obtain ⟨y345, hy345⟩ : ∃ y_ : List Int, y_ = (([a0_0, a0_1, a0_2, a0_3] : List Int)) := ⟨_, rfl⟩
  replace H : ((impl_joined.f k (⟨#[44]⟩ : ByteArray) y345).bind fun t348 => (some t348)) = some r := by first | (rw [hy345]; with_reducible exact H) | (have H2_ := (Option.bind_some _ _).symm.trans H; rw [hy345]; with_reducible exact H2_) | (have H2_ := (Option.bind_some _ _).symm.trans H; with_reducible exact H2_) | with_reducible exact H | (rw [hy345]; exact H) | exact H
  have Ny345 := Aside0.mk hy345
  clear hy345
  obtain ⟨t348, A4, H⟩ := ob H
  try dsimp only at H
  obtain rfl := Option.some.inj H
  go_enter Tryz.func18, Tryz.ntmps18
  go_wp2_with (first | ((with_reducible refine gd 1 rfl ?_); refine bx #[.int .i64 a0_0, .int .i64 a0_1, .int .i64 a0_2, .int .i64 a0_3] 25 ?_; intro gb343 hg w5 BK343 hb; have GE343 := ngw0 hg HB; replace HB := bS0 HB hb; clear hb hg; obtain ⟨hcz6_0, hcz6_1, hcz6_2, hcz6_3, hfz6_0, hfz6_1, hfz6_2, hfz6_3⟩ := bz4 BK343) | ((with_reducible refine gate_callee (f := 52) rfl ?_); refine gl 4 Tryz.func52 #[.agg #[.int .i64 a0_0, .int .i64 a0_1, .int .i64 a0_2, .int .i64 a0_3]] ?_; (with_reducible refine (impl_IsMat.calls _ _ _ _ _ _ A2.out).mono ?_); rintro e w7 ⟨rfl, hb⟩; refine ⟨_, rfl, ?_⟩; replace BK343 := bB BK343 hb; replace HB := bS1 HB GE343 hb; (try clear hb); obtain ⟨hcz8_0, hcz8_1, hcz8_2, hcz8_3, hfz8_0, hfz8_1, hfz8_2, hfz8_3⟩ := bz4 BK343) | ((with_reducible refine gd 14 rfl ?_); refine Kd.R_lit (Kd.int .i64) _ 2 ?hg (N := 14) ?hd (xs := ([a0_0, a0_1, a0_2, a0_3] : List Int)) (inner := [.int .i64 a0_0, .int .i64 a0_1, .int .i64 a0_2, .int .i64 a0_3]) (ok := fun _ => True) (okp := fun _ => True) ?hr ?hp (fun _ hk => hk) trivial (Below.refl _ _) (Nat.le_refl _) (by simp) ?_; (case hd => rfl); (case hg => rfl); (case hr => first | (go_simp; done) | (go_simp; rfl)); (case hp => exact (Reps.one (show Kd.M (Kd.int .i64) _ _ _ a0_0 [.int .i64 a0_0] from rfl) (Reps.one (show Kd.M (Kd.int .i64) _ _ _ a0_1 [.int .i64 a0_1] from rfl) (Reps.one (show Kd.M (Kd.int .i64) _ _ _ a0_2 [.int .i64 a0_2] from rfl) (Reps.one (show Kd.M (Kd.int .i64) _ _ _ a0_3 [.int .i64 a0_3] from rfl) (Reps.none _ _)))))); intro v346 w9 ho10 hb hg_ hnew_; clear hg_ hnew_; (first | rw [← Ny345.out] at ho10 | (simp only [Int.reduceToNat] at ho10; rw [← Ny345.out] at ho10)); have HO347 := asd (Kd.R_lower ho10 (bsz1 HB GE343)); replace BK343 := bB BK343 hb; replace HB := bS1 HB GE343 hb; clear hb ho10; obtain ⟨Ao11, co11, eo11⟩ := Kd.R_slice HO347.out; subst eo11) | ((with_reducible refine gate_callee (f := 62) rfl ?_); refine gl 15 Tryz.func62 #[.string (⟨#[44]⟩ : ByteArray), .slice Ao11 y345.length co11] ?_; (with_reducible refine (impl_joined.calls _ _ _ _ _ _ _ ?side1 ?side2 (texts.tabB HTAB.out (by repeat (first | (with_reducible first | exact HB.out | exact Below.refl _ _ | apply below_alloc | apply pw_below_drewN | apply below_drew1 | refine below_set ?_ GE343.out) | exact HB.out))) A4.out).mono ?_); (case side1 => exact ks (Kd.R_reads' HO347.out).2.2); (case side2 => exact (Kd.R_reads' HO347.out).2.1); rintro e w12 ⟨rfl, hb⟩; refine ⟨_, rfl, ?_⟩; replace HO347 := asd (Kd.R_below (kr HO347) hb); replace BK343 := bB BK343 hb; replace HB := bS1 HB GE343 hb; (try clear hb)))
  go_ret
  exact er (bbw1 HB GE343)
 ·replace c3 := Bool.eq_false_iff.mpr c3
  subst c3
  replace H := ifF H
  obtain rfl := Option.some.inj H
  go_enter Tryz.func18, Tryz.ntmps18
  go_wp2_with (first | ((with_reducible refine gd 1 rfl ?_); refine bx #[.int .i64 a0_0, .int .i64 a0_1, .int .i64 a0_2, .int .i64 a0_3] 25 ?_; intro gb343 hg w13 BK343 hb; have GE343 := ngw0 hg HB; replace HB := bS0 HB hb; clear hb hg; obtain ⟨hcz14_0, hcz14_1, hcz14_2, hcz14_3, hfz14_0, hfz14_1, hfz14_2, hfz14_3⟩ := bz4 BK343) | ((with_reducible refine gate_callee (f := 52) rfl ?_); refine gl 4 Tryz.func52 #[.agg #[.int .i64 a0_0, .int .i64 a0_1, .int .i64 a0_2, .int .i64 a0_3]] ?_; (with_reducible refine (impl_IsMat.calls _ _ _ _ _ _ A2.out).mono ?_); rintro e w15 ⟨rfl, hb⟩; refine ⟨_, rfl, ?_⟩; replace BK343 := bB BK343 hb; replace HB := bS1 HB GE343 hb; (try clear hb)))
  go_ret
  exact er (bbw1 HB GE343)

end Go.Proofs.YtnblfcibgokccaaGreatDoor.PA
