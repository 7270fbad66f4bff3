/- Walks written by program: each Go function that the law reaches comes to the plain function beside it. -/
import Derived.Test.YtfhbhjlgepjlfaaDoorPMx0
import Derived.Test.YtfhbhjlgepjlfaaDoorPMx4
import Derived.Test.YtfhbhjlgepjlfaaDoorPMx5
namespace Go.Proofs.YtfhbhjlgepjlfaaDoor.PM
open Go.RowKit Go.Proofs.YtfhbhjlgepjlfaaDoorW.PrintWords Go.Proofs.YtfhbhjlgepjlfaaDoorW.PrintLast Go.Proofs.YtfhbhjlgepjlfaaDoorW.PrintMore
attribute [local go_sem] max2_int min2_int max_two min_two max_three min_three max_four min_four   -- for this text's walks alone
set_option linter.unusedVariables false
set_option linter.unusedSimpArgs false

/-! ### impl_Mat_isTurn: function 58 -/
def impl_Mat_isTurn.f (k : Nat) (a0_0 : Int) (a0_1 : Int) (a0_2 : Int) (a0_3 : Int) : Option (Bool) := (impl_Mat_isRotation.f k a0_0 a0_1 a0_2 a0_3).bind fun t282 => (if t282 = true then (some true) else ((impl_Mat_isReflection.f k a0_0 a0_1 a0_2 a0_3).bind fun t283 => (some t283)))
set_option maxHeartbeats 8000000 in
set_option maxRecDepth 100000 in
theorem impl_Mat_isTurn.calls (k : Nat) (a0_0 : Int) (a0_1 : Int) (a0_2 : Int) (a0_3 : Int) (r : Bool) (w : World) (h : impl_Mat_isTurn.f k a0_0 a0_1 a0_2 a0_3 = some r) :
  Calls Tryd.prog 58 #[.agg #[.int .i64 a0_0, .int .i64 a0_1, .int .i64 a0_2, .int .i64 a0_3]] w fun e w' => e = .returned (.bool r) ∧ Below w.heap.size w w' := by
 have hu31 := Tryd.underlying31
 have HB := asd (Below.refl w.heap.size w)
 have H : ((impl_Mat_isRotation.f k a0_0 a0_1 a0_2 a0_3).bind fun t282 => (if t282 = true then (some true) else ((impl_Mat_isReflection.f k a0_0 a0_1 a0_2 a0_3).bind fun t283 => (some t283)))) = some r := h
 clear h
 obtain ⟨t282, A2, H⟩ := ob H
 try dsimp only at H
 by_cases c3 : t282 = true
 ·subst c3
  replace H := ifT H
  obtain rfl := Option.some.inj H
  go_enter Tryd.func58, Tryd.ntmps58
  go_wp2_with (first | ((with_reducible refine gd 1 rfl ?_); refine bx #[.int .i64 a0_0, .int .i64 a0_1, .int .i64 a0_2, .int .i64 a0_3] 31 ?_; intro gb281 hg w4 BK281 hb; have GE281 := ngw0 hg HB; replace HB := bS0 HB hb; clear hb hg; obtain ⟨hcz5_0, hcz5_1, hcz5_2, hcz5_3, hfz5_0, hfz5_1, hfz5_2, hfz5_3⟩ := bz4 BK281) | ((with_reducible refine gate_callee (f := 81) rfl ?_); refine gl 4 Tryd.func81 #[.agg #[.int .i64 a0_0, .int .i64 a0_1, .int .i64 a0_2, .int .i64 a0_3]] ?_; (with_reducible refine (impl_Mat_isRotation.calls _ _ _ _ _ _ _ A2.out).mono ?_); rintro e w6 ⟨rfl, hb⟩; refine ⟨_, rfl, ?_⟩; replace BK281 := bB BK281 hb; replace HB := bS1 HB GE281 hb; (try clear hb)))
  go_ret
  exact er (bbw1 HB GE281)
 ·replace c3 := Bool.eq_false_iff.mpr c3
  subst c3
  replace H := ifF H
  obtain ⟨t283, A7, H⟩ := ob H
  try dsimp only at H
  obtain rfl := Option.some.inj H
  go_enter Tryd.func58, Tryd.ntmps58
  go_wp2_with (first | ((with_reducible refine gd 1 rfl ?_); refine bx #[.int .i64 a0_0, .int .i64 a0_1, .int .i64 a0_2, .int .i64 a0_3] 31 ?_; intro gb281 hg w8 BK281 hb; have GE281 := ngw0 hg HB; replace HB := bS0 HB hb; clear hb hg; obtain ⟨hcz9_0, hcz9_1, hcz9_2, hcz9_3, hfz9_0, hfz9_1, hfz9_2, hfz9_3⟩ := bz4 BK281) | ((with_reducible refine gate_callee (f := 81) rfl ?_); refine gl 4 Tryd.func81 #[.agg #[.int .i64 a0_0, .int .i64 a0_1, .int .i64 a0_2, .int .i64 a0_3]] ?_; (with_reducible refine (impl_Mat_isRotation.calls _ _ _ _ _ _ _ A2.out).mono ?_); rintro e w10 ⟨rfl, hb⟩; refine ⟨_, rfl, ?_⟩; replace BK281 := bB BK281 hb; replace HB := bS1 HB GE281 hb; (try clear hb); obtain ⟨hcz11_0, hcz11_1, hcz11_2, hcz11_3, hfz11_0, hfz11_1, hfz11_2, hfz11_3⟩ := bz4 BK281) | (go_at_call 82; (with_reducible refine (impl_Mat_isReflection.calls _ _ _ _ _ _ _ A7.out).mono ?_); rintro e w12 ⟨rfl, hb⟩; replace BK281 := bB BK281 hb; replace HB := bS1 HB GE281 hb; (try clear hb)))
  go_ret
  exact er (bbw1 HB GE281)
/-! ### impl_IsMotion: function 33 -/
def impl_IsMotion.f (k : Nat) (a0_0 : Int) (a0_1 : Int) (a0_2 : Int) (a0_3 : Int) (a0_4 : Int) (a0_5 : Int) : Option (Bool) := (impl_IsMat.f a0_0 a0_1 a0_2 a0_3).bind fun t285 => (if t285 = true then ((impl_Mat_isTurn.f k a0_0 a0_1 a0_2 a0_3).bind fun t286 => (if t286 = true then ((impl_IsVec.f a0_4 a0_5).bind fun t287 => (some t287)) else (some false))) else (some false))
set_option maxHeartbeats 8000000 in
set_option maxRecDepth 100000 in
theorem impl_IsMotion.calls (k : Nat) (a0_0 : Int) (a0_1 : Int) (a0_2 : Int) (a0_3 : Int) (a0_4 : Int) (a0_5 : Int) (r : Bool) (w : World) (h : impl_IsMotion.f k a0_0 a0_1 a0_2 a0_3 a0_4 a0_5 = some r) :
  Calls Tryd.prog 33 #[.agg #[.int .i64 a0_0, .int .i64 a0_1, .int .i64 a0_2, .int .i64 a0_3, .int .i64 a0_4, .int .i64 a0_5]] w fun e w' => e = .returned (.bool r) ∧ Below w.heap.size w w' := by
 have hu35 := Tryd.underlying35
 have hu31 := Tryd.underlying31
 have hu33 := Tryd.underlying33
 have HB := asd (Below.refl w.heap.size w)
 have H : ((impl_IsMat.f a0_0 a0_1 a0_2 a0_3).bind fun t285 => (if t285 = true then ((impl_Mat_isTurn.f k a0_0 a0_1 a0_2 a0_3).bind fun t286 => (if t286 = true then ((impl_IsVec.f a0_4 a0_5).bind fun t287 => (some t287)) else (some false))) else (some false))) = some r := h
 clear h
 obtain ⟨t285, A2, H⟩ := ob H
 try dsimp only at H
 by_cases c3 : t285 = true
 ·subst c3
  replace H := ifT H
  obtain ⟨t286, A4, H⟩ := ob H
  try dsimp only at H
  by_cases c5 : t286 = true
  ·subst c5
   replace H := ifT H
   obtain ⟨t287, A6, H⟩ := ob H
   try dsimp only at H
   obtain rfl := Option.some.inj H
   go_enter Tryd.func33, Tryd.ntmps33
   go_wp2_with (first | ((with_reducible refine gd 1 rfl ?_); refine bx #[.int .i64 a0_0, .int .i64 a0_1, .int .i64 a0_2, .int .i64 a0_3, .int .i64 a0_4, .int .i64 a0_5] 35 ?_; intro gb284 hg w7 BK284 hb; have GE284 := ngw0 hg HB; replace HB := bS0 HB hb; clear hb hg; obtain ⟨hcz8_0, hcz8_1, hcz8_2, hcz8_3, hcz8_4, hcz8_5, hfz8_0, hfz8_1, hfz8_2, hfz8_3, hfz8_4, hfz8_5⟩ := bz6 BK284) | ((with_reducible refine gate_callee (f := 56) rfl ?_); refine gl 5 Tryd.func56 #[.agg #[.int .i64 a0_0, .int .i64 a0_1, .int .i64 a0_2, .int .i64 a0_3]] ?_; (with_reducible refine (impl_IsMat.calls _ _ _ _ _ _ A2.out).mono ?_); rintro e w9 ⟨rfl, hb⟩; refine ⟨_, rfl, ?_⟩; replace BK284 := bB BK284 hb; replace HB := bS1 HB GE284 hb; (try clear hb); obtain ⟨hcz10_0, hcz10_1, hcz10_2, hcz10_3, hcz10_4, hcz10_5, hfz10_0, hfz10_1, hfz10_2, hfz10_3, hfz10_4, hfz10_5⟩ := bz6 BK284) | (go_at_call 58; (with_reducible refine (impl_Mat_isTurn.calls _ _ _ _ _ _ _ A4.out).mono ?_); rintro e w11 ⟨rfl, hb⟩; replace BK284 := bB BK284 hb; replace HB := bS1 HB GE284 hb; (try clear hb); obtain ⟨hcz12_0, hcz12_1, hcz12_2, hcz12_3, hcz12_4, hcz12_5, hfz12_0, hfz12_1, hfz12_2, hfz12_3, hfz12_4, hfz12_5⟩ := bz6 BK284) | (go_at_call 57; (with_reducible refine (impl_IsVec.calls _ _ _ _ A6.out).mono ?_); rintro e w13 ⟨rfl, hb⟩; replace BK284 := bB BK284 hb; replace HB := bS1 HB GE284 hb; (try clear hb)))
   go_ret
   exact er (bbw1 HB GE284)
  ·replace c5 := Bool.eq_false_iff.mpr c5
   subst c5
   replace H := ifF H
   obtain rfl := Option.some.inj H
   go_enter Tryd.func33, Tryd.ntmps33
   go_wp2_with (first | ((with_reducible refine gd 1 rfl ?_); refine bx #[.int .i64 a0_0, .int .i64 a0_1, .int .i64 a0_2, .int .i64 a0_3, .int .i64 a0_4, .int .i64 a0_5] 35 ?_; intro gb284 hg w14 BK284 hb; have GE284 := ngw0 hg HB; replace HB := bS0 HB hb; clear hb hg; obtain ⟨hcz15_0, hcz15_1, hcz15_2, hcz15_3, hcz15_4, hcz15_5, hfz15_0, hfz15_1, hfz15_2, hfz15_3, hfz15_4, hfz15_5⟩ := bz6 BK284) | ((with_reducible refine gate_callee (f := 56) rfl ?_); refine gl 5 Tryd.func56 #[.agg #[.int .i64 a0_0, .int .i64 a0_1, .int .i64 a0_2, .int .i64 a0_3]] ?_; (with_reducible refine (impl_IsMat.calls _ _ _ _ _ _ A2.out).mono ?_); rintro e w16 ⟨rfl, hb⟩; refine ⟨_, rfl, ?_⟩; replace BK284 := bB BK284 hb; replace HB := bS1 HB GE284 hb; (try clear hb); obtain ⟨hcz17_0, hcz17_1, hcz17_2, hcz17_3, hcz17_4, hcz17_5, hfz17_0, hfz17_1, hfz17_2, hfz17_3, hfz17_4, hfz17_5⟩ := bz6 BK284) | (go_at_call 58; (with_reducible refine (impl_Mat_isTurn.calls _ _ _ _ _ _ _ A4.out).mono ?_); rintro e w18 ⟨rfl, hb⟩; replace BK284 := bB BK284 hb; replace HB := bS1 HB GE284 hb; (try clear hb)))
   go_ret
   exact er (bbw1 HB GE284)
 ·replace c3 := Bool.eq_false_iff.mpr c3
  subst c3
  replace H := ifF H
  obtain rfl := Option.some.inj H
  go_enter Tryd.func33, Tryd.ntmps33
  go_wp2_with (first | ((with_reducible refine gd 1 rfl ?_); refine bx #[.int .i64 a0_0, .int .i64 a0_1, .int .i64 a0_2, .int .i64 a0_3, .int .i64 a0_4, .int .i64 a0_5] 35 ?_; intro gb284 hg w19 BK284 hb; have GE284 := ngw0 hg HB; replace HB := bS0 HB hb; clear hb hg; obtain ⟨hcz20_0, hcz20_1, hcz20_2, hcz20_3, hcz20_4, hcz20_5, hfz20_0, hfz20_1, hfz20_2, hfz20_3, hfz20_4, hfz20_5⟩ := bz6 BK284) | ((with_reducible refine gate_callee (f := 56) rfl ?_); refine gl 5 Tryd.func56 #[.agg #[.int .i64 a0_0, .int .i64 a0_1, .int .i64 a0_2, .int .i64 a0_3]] ?_; (with_reducible refine (impl_IsMat.calls _ _ _ _ _ _ A2.out).mono ?_); rintro e w21 ⟨rfl, hb⟩; refine ⟨_, rfl, ?_⟩; replace BK284 := bB BK284 hb; replace HB := bS1 HB GE284 hb; (try clear hb)))
  go_ret
  exact er (bbw1 HB GE284)
/-! ### impl_ReadMotion: function 12 -/
def impl_ReadMotion.f (k : Nat) (a0 : ByteArray) : Option (Int × Int × Int × Int × Int × Int × Bool) := (strings_Cut.f a0 (⟨#[59]⟩ : ByteArray)).bind fun bt289 => ((impl_ReadMat.f k bt289.1).bind fun bt292 => ((impl_ReadVec.f k bt289.2.1).bind fun bt298 => (if bt292.2.2.2.2 = true then (if bt298.2.2 = true then ((impl_IsMotion.f k bt292.1 bt292.2.1 bt292.2.2.1 bt292.2.2.2.1 bt298.1 bt298.2.1).bind fun t302 => (if t302 = true then (some (bt292.1, bt292.2.1, bt292.2.2.1, bt292.2.2.2.1, bt298.1, bt298.2.1, true)) else (some (0, 0, 0, 0, 0, 0, false)))) else (some (0, 0, 0, 0, 0, 0, false))) else (some (0, 0, 0, 0, 0, 0, false)))))
set_option maxHeartbeats 8000000 in
set_option maxRecDepth 100000 in
theorem impl_ReadMotion.calls (k : Nat) (a0 : ByteArray) (r1 : Int) (r2 : Int) (r3 : Int) (r4 : Int) (r5 : Int) (r6 : Int) (r7 : Bool) (w : World) (htab : texts.Tab w) (h : impl_ReadMotion.f k a0 = some (r1, r2, r3, r4, r5, r6, r7)) :
  Calls Tryd.prog 12 #[.string a0] w fun e w' => e = .returned (.tuple #[.agg #[.int .i64 r1, .int .i64 r2, .int .i64 r3, .int .i64 r4, .int .i64 r5, .int .i64 r6], .bool r7]) ∧ Below w.heap.size w w' := by
 have HTAB := Aside0.mk htab
 clear htab
 have hu35 := Tryd.underlying35
 have hu31 := Tryd.underlying31
 have hu33 := Tryd.underlying33
 have HB := asd (Below.refl w.heap.size w)
 have H : ((strings_Cut.f a0 (⟨#[59]⟩ : ByteArray)).bind fun bt289 => ((impl_ReadMat.f k bt289.1).bind fun bt292 => ((impl_ReadVec.f k bt289.2.1).bind fun bt298 => (if bt292.2.2.2.2 = true then (if bt298.2.2 = true then ((impl_IsMotion.f k bt292.1 bt292.2.1 bt292.2.2.1 bt292.2.2.2.1 bt298.1 bt298.2.1).bind fun t302 => (if t302 = true then (some (bt292.1, bt292.2.1, bt292.2.2.1, bt292.2.2.2.1, bt298.1, bt298.2.1, true)) else (some (0, 0, 0, 0, 0, 0, false)))) else (some (0, 0, 0, 0, 0, 0, false))) else (some (0, 0, 0, 0, 0, 0, false)))))) = some (r1, r2, r3, r4, r5, r6, r7) := h
 clear h
 obtain ⟨⟨t289, t290, t291⟩, A2, H⟩ := ob H
 try dsimp only at H
 obtain ⟨⟨t292, t293, t294, t295, t296⟩, A3, H⟩ := ob H
 try dsimp only at H
 obtain ⟨⟨t298, t299, t300⟩, A4, H⟩ := ob H
 try dsimp only at H
 by_cases c5 : t296 = true
 subst c5
 replace H := ifT H
 by_cases c6 : t300 = true
 subst c6
 replace H := ifT H
 obtain ⟨t302, A7, H⟩ := ob H
 try dsimp only at H
 by_cases c8 : t302 = true
 subst c8
 replace H := ifT H
 rotate_left
 replace c8 := Bool.eq_false_iff.mpr c8
 subst c8
 replace H := ifF H
 rotate_left
 replace c6 := Bool.eq_false_iff.mpr c6
 subst c6
 replace H := ifF H
 rotate_left
 replace c5 := Bool.eq_false_iff.mpr c5
 subst c5
 replace H := ifF H
 rotate_left
 all_goals
  simp only [Option.some.injEq, Prod.mk.injEq] at H
  obtain ⟨rfl, rfl, rfl, rfl, rfl, rfl, rfl⟩ := H
  go_enter Tryd.func12, Tryd.ntmps12
 ·go_wp2_with (first | ((with_reducible refine gd 2 rfl ?_); refine bx #[.int .i64 0, .int .i64 0, .int .i64 0, .int .i64 0, .int .i64 0, .int .i64 0] 35 ?_; intro gb288 hg w9 BK288 hb; have GE288 := ngw0 hg HB; replace HB := bS0 HB hb; clear hb hg) | ((with_reducible refine gate_callee (f := 30) rfl ?_); refine gl 13 Tryd.func30 #[.string a0, .string (⟨#[59]⟩ : ByteArray)] ?_; (with_reducible refine (strings_Cut.calls _ _ _ _ _ _ (texts.tabB HTAB.out (by repeat (first | (with_reducible first | exact HB.out | exact Below.refl _ _ | apply below_alloc | apply pw_below_drewN | apply below_drew1 | refine below_set ?_ GE288.out | refine below_set ?_ GE297.out | refine below_set ?_ GE301.out) | exact HB.out))) A2.out).mono ?_); rintro e w10 ⟨rfl, hb⟩; refine ⟨_, rfl, ?_⟩; replace BK288 := bB BK288 hb; replace HB := bS1 HB GE288 hb; (try clear hb)) | ((with_reducible refine gate_callee (f := 31) rfl ?_); refine gl 19 Tryd.func31 #[.string t289] ?_; (with_reducible refine (impl_ReadMat.calls _ _ _ _ _ _ _ _ (texts.tabB HTAB.out (by repeat (first | (with_reducible first | exact HB.out | exact Below.refl _ _ | apply below_alloc | apply pw_below_drewN | apply below_drew1 | refine below_set ?_ GE288.out | refine below_set ?_ GE297.out | refine below_set ?_ GE301.out) | exact HB.out))) A3.out).mono ?_); rintro e w11 ⟨rfl, hb⟩; refine ⟨_, rfl, ?_⟩; replace BK288 := bB BK288 hb; replace HB := bS1 HB GE288 hb; (try clear hb)) | ((with_reducible refine gd 7 rfl ?_); refine bx #[.int .i64 0, .int .i64 0, .int .i64 0, .int .i64 0] 31 ?_; intro gb297 hg w12 BK297 hb; have GE297 := ngw1 hg HB GE288; replace HB := bS1 HB GE288 hb; have NB288_297 := nlt hg BK288; have NB297_288 := nsy (nlt hg BK288); replace BK288 := bB BK288 hb; clear hb hg; have hnb13 := NB297_288.out; have hnc13 := NB288_297.out; obtain ⟨hcz14_0, hcz14_1, hcz14_2, hcz14_3, hfz14_0, hfz14_1, hfz14_2, hfz14_3⟩ := bz4 BK297) | ((with_reducible refine gate_callee (f := 32) rfl ?_); refine gl 24 Tryd.func32 #[.string t290] ?_; (with_reducible refine (impl_ReadVec.calls _ _ _ _ _ _ (texts.tabB HTAB.out (by repeat (first | (with_reducible first | exact HB.out | exact Below.refl _ _ | apply below_alloc | apply pw_below_drewN | apply below_drew1 | refine below_set ?_ GE288.out | refine below_set ?_ GE297.out | refine below_set ?_ GE301.out) | exact HB.out))) A4.out).mono ?_); rintro e w15 ⟨rfl, hb⟩; refine ⟨_, rfl, ?_⟩; replace BK288 := asd (blk_below (g := gb288) (o := .cells #[.int .i64 0, .int .i64 0, .int .i64 0, .int .i64 0, .int .i64 0, .int .i64 0] 35 (0, 0)) (bq1 BK288 NB288_297) hb); replace BK297 := asd (blk_below (g := gb297) (o := .cells #[.int .i64 t292, .int .i64 t293, .int .i64 t294, .int .i64 t295] 31 (0, 0)) (bq0 BK297) hb); replace HB := bS2 HB GE288 GE297 hb; (try clear hb)) | ((with_reducible refine gd 9 rfl ?_); refine bx #[.int .i64 0, .int .i64 0] 33 ?_; intro gb301 hg w16 BK301 hb; have GE301 := ngw2 hg HB GE288 GE297; replace HB := bS2 HB GE288 GE297 hb; have NB288_301 := nlt hg BK288; have NB301_288 := nsy (nlt hg BK288); replace BK288 := bB BK288 hb; have NB297_301 := nlt hg BK297; have NB301_297 := nsy (nlt hg BK297); replace BK297 := bB BK297 hb; clear hb hg; have hnb17 := NB301_288.out; have hnc17 := NB288_301.out; have hnb18 := NB301_297.out; have hnc18 := NB297_301.out; obtain ⟨hcz19_0, hcz19_1, hfz19_0, hfz19_1⟩ := bz2 BK301; obtain ⟨hcz20_0, hcz20_1, hcz20_2, hcz20_3, hfz20_0, hfz20_1, hfz20_2, hfz20_3⟩ := bz4 BK297) | (go_at_call 33; (with_reducible refine (impl_IsMotion.calls _ _ _ _ _ _ _ _ _ A7.out).mono ?_); rintro e w21 ⟨rfl, hb⟩; replace BK288 := asd (blk_below (g := gb288) (o := .cells #[.int .i64 0, .int .i64 0, .int .i64 0, .int .i64 0, .int .i64 0, .int .i64 0] 35 (0, 0)) (bq1 BK288 NB288_301) hb); replace BK297 := asd (blk_below (g := gb297) (o := .cells #[.int .i64 t292, .int .i64 t293, .int .i64 t294, .int .i64 t295] 31 (0, 0)) (bq1 BK297 NB297_301) hb); replace BK301 := asd (blk_below (g := gb301) (o := .cells #[.int .i64 t298, .int .i64 t299] 33 (0, 0)) (bq0 BK301) hb); replace HB := bS3 HB GE288 GE297 GE301 hb; (try clear hb); obtain ⟨hcz22_0, hcz22_1, hcz22_2, hcz22_3, hfz22_0, hfz22_1, hfz22_2, hfz22_3⟩ := bz4 BK297; obtain ⟨hcz23_0, hcz23_1, hfz23_0, hfz23_1⟩ := bz2 BK301; obtain ⟨hcz24_0, hcz24_1, hcz24_2, hcz24_3, hcz24_4, hcz24_5, hfz24_0, hfz24_1, hfz24_2, hfz24_3, hfz24_4, hfz24_5⟩ := bz6 BK288))
  refine bodyPost_ret (results_ct rfl _ _ gb288 35 #[.int .i64 t292, .int .i64 t293, .int .i64 t294, .int .i64 t295, .int .i64 t298, .int .i64 t299] (0, 0) _ rfl (bq0 BK288) Tryd.underlying35 rfl (by kernel_rfl)) rfl ?_
  exact er (bbw3 HB GE288 GE297 GE301)
 ·go_wp2_with (first | ((with_reducible refine gd 2 rfl ?_); refine bx #[.int .i64 0, .int .i64 0, .int .i64 0, .int .i64 0, .int .i64 0, .int .i64 0] 35 ?_; intro gb288 hg w25 BK288 hb; have GE288 := ngw0 hg HB; replace HB := bS0 HB hb; clear hb hg) | ((with_reducible refine gate_callee (f := 30) rfl ?_); refine gl 13 Tryd.func30 #[.string a0, .string (⟨#[59]⟩ : ByteArray)] ?_; (with_reducible refine (strings_Cut.calls _ _ _ _ _ _ (texts.tabB HTAB.out (by repeat (first | (with_reducible first | exact HB.out | exact Below.refl _ _ | apply below_alloc | apply pw_below_drewN | apply below_drew1 | refine below_set ?_ GE288.out | refine below_set ?_ GE297.out | refine below_set ?_ GE301.out) | exact HB.out))) A2.out).mono ?_); rintro e w26 ⟨rfl, hb⟩; refine ⟨_, rfl, ?_⟩; replace BK288 := bB BK288 hb; replace HB := bS1 HB GE288 hb; (try clear hb)) | ((with_reducible refine gate_callee (f := 31) rfl ?_); refine gl 19 Tryd.func31 #[.string t289] ?_; (with_reducible refine (impl_ReadMat.calls _ _ _ _ _ _ _ _ (texts.tabB HTAB.out (by repeat (first | (with_reducible first | exact HB.out | exact Below.refl _ _ | apply below_alloc | apply pw_below_drewN | apply below_drew1 | refine below_set ?_ GE288.out | refine below_set ?_ GE297.out | refine below_set ?_ GE301.out) | exact HB.out))) A3.out).mono ?_); rintro e w27 ⟨rfl, hb⟩; refine ⟨_, rfl, ?_⟩; replace BK288 := bB BK288 hb; replace HB := bS1 HB GE288 hb; (try clear hb)) | ((with_reducible refine gd 7 rfl ?_); refine bx #[.int .i64 0, .int .i64 0, .int .i64 0, .int .i64 0] 31 ?_; intro gb297 hg w28 BK297 hb; have GE297 := ngw1 hg HB GE288; replace HB := bS1 HB GE288 hb; have NB288_297 := nlt hg BK288; have NB297_288 := nsy (nlt hg BK288); replace BK288 := bB BK288 hb; clear hb hg; have hnb29 := NB297_288.out; have hnc29 := NB288_297.out; obtain ⟨hcz30_0, hcz30_1, hcz30_2, hcz30_3, hfz30_0, hfz30_1, hfz30_2, hfz30_3⟩ := bz4 BK297) | ((with_reducible refine gate_callee (f := 32) rfl ?_); refine gl 24 Tryd.func32 #[.string t290] ?_; (with_reducible refine (impl_ReadVec.calls _ _ _ _ _ _ (texts.tabB HTAB.out (by repeat (first | (with_reducible first | exact HB.out | exact Below.refl _ _ | apply below_alloc | apply pw_below_drewN | apply below_drew1 | refine below_set ?_ GE288.out | refine below_set ?_ GE297.out | refine below_set ?_ GE301.out) | exact HB.out))) A4.out).mono ?_); rintro e w31 ⟨rfl, hb⟩; refine ⟨_, rfl, ?_⟩; replace BK288 := asd (blk_below (g := gb288) (o := .cells #[.int .i64 0, .int .i64 0, .int .i64 0, .int .i64 0, .int .i64 0, .int .i64 0] 35 (0, 0)) (bq1 BK288 NB288_297) hb); replace BK297 := asd (blk_below (g := gb297) (o := .cells #[.int .i64 t292, .int .i64 t293, .int .i64 t294, .int .i64 t295] 31 (0, 0)) (bq0 BK297) hb); replace HB := bS2 HB GE288 GE297 hb; (try clear hb)) | ((with_reducible refine gd 9 rfl ?_); refine bx #[.int .i64 0, .int .i64 0] 33 ?_; intro gb301 hg w32 BK301 hb; have GE301 := ngw2 hg HB GE288 GE297; replace HB := bS2 HB GE288 GE297 hb; have NB288_301 := nlt hg BK288; have NB301_288 := nsy (nlt hg BK288); replace BK288 := bB BK288 hb; have NB297_301 := nlt hg BK297; have NB301_297 := nsy (nlt hg BK297); replace BK297 := bB BK297 hb; clear hb hg; have hnb33 := NB301_288.out; have hnc33 := NB288_301.out; have hnb34 := NB301_297.out; have hnc34 := NB297_301.out; obtain ⟨hcz35_0, hcz35_1, hfz35_0, hfz35_1⟩ := bz2 BK301; obtain ⟨hcz36_0, hcz36_1, hcz36_2, hcz36_3, hfz36_0, hfz36_1, hfz36_2, hfz36_3⟩ := bz4 BK297) | (go_at_call 33; (with_reducible refine (impl_IsMotion.calls _ _ _ _ _ _ _ _ _ A7.out).mono ?_); rintro e w37 ⟨rfl, hb⟩; replace BK288 := asd (blk_below (g := gb288) (o := .cells #[.int .i64 0, .int .i64 0, .int .i64 0, .int .i64 0, .int .i64 0, .int .i64 0] 35 (0, 0)) (bq1 BK288 NB288_301) hb); replace BK297 := asd (blk_below (g := gb297) (o := .cells #[.int .i64 t292, .int .i64 t293, .int .i64 t294, .int .i64 t295] 31 (0, 0)) (bq1 BK297 NB297_301) hb); replace BK301 := asd (blk_below (g := gb301) (o := .cells #[.int .i64 t298, .int .i64 t299] 33 (0, 0)) (bq0 BK301) hb); replace HB := bS3 HB GE288 GE297 GE301 hb; (try clear hb); obtain ⟨hcz38_0, hcz38_1, hcz38_2, hcz38_3, hcz38_4, hcz38_5, hfz38_0, hfz38_1, hfz38_2, hfz38_3, hfz38_4, hfz38_5⟩ := bz6 BK288))
  refine bodyPost_ret (results_ct rfl _ _ gb288 35 #[.int .i64 0, .int .i64 0, .int .i64 0, .int .i64 0, .int .i64 0, .int .i64 0] (0, 0) _ rfl (bq0 BK288) Tryd.underlying35 rfl (by kernel_rfl)) rfl ?_
  exact er (bbw3 HB GE288 GE297 GE301)
 rotate_left 2
 all_goals
  go_wp2_with (first | ((with_reducible refine gd 2 rfl ?_); refine bx #[.int .i64 0, .int .i64 0, .int .i64 0, .int .i64 0, .int .i64 0, .int .i64 0] 35 ?_; intro gb288 hg w39 BK288 hb; have GE288 := ngw0 hg HB; replace HB := bS0 HB hb; clear hb hg) | ((with_reducible refine gate_callee (f := 30) rfl ?_); refine gl 13 Tryd.func30 #[.string a0, .string (⟨#[59]⟩ : ByteArray)] ?_; (with_reducible refine (strings_Cut.calls _ _ _ _ _ _ (texts.tabB HTAB.out (by repeat (first | (with_reducible first | exact HB.out | exact Below.refl _ _ | apply below_alloc | apply pw_below_drewN | apply below_drew1 | refine below_set ?_ GE288.out | refine below_set ?_ GE297.out | refine below_set ?_ GE301.out) | exact HB.out))) A2.out).mono ?_); rintro e w40 ⟨rfl, hb⟩; refine ⟨_, rfl, ?_⟩; replace BK288 := bB BK288 hb; replace HB := bS1 HB GE288 hb; (try clear hb)) | ((with_reducible refine gate_callee (f := 31) rfl ?_); refine gl 19 Tryd.func31 #[.string t289] ?_; (with_reducible refine (impl_ReadMat.calls _ _ _ _ _ _ _ _ (texts.tabB HTAB.out (by repeat (first | (with_reducible first | exact HB.out | exact Below.refl _ _ | apply below_alloc | apply pw_below_drewN | apply below_drew1 | refine below_set ?_ GE288.out | refine below_set ?_ GE297.out | refine below_set ?_ GE301.out) | exact HB.out))) A3.out).mono ?_); rintro e w41 ⟨rfl, hb⟩; refine ⟨_, rfl, ?_⟩; replace BK288 := bB BK288 hb; replace HB := bS1 HB GE288 hb; (try clear hb)) | ((with_reducible refine gd 7 rfl ?_); refine bx #[.int .i64 0, .int .i64 0, .int .i64 0, .int .i64 0] 31 ?_; intro gb297 hg w42 BK297 hb; have GE297 := ngw1 hg HB GE288; replace HB := bS1 HB GE288 hb; have NB288_297 := nlt hg BK288; have NB297_288 := nsy (nlt hg BK288); replace BK288 := bB BK288 hb; clear hb hg; have hnb43 := NB297_288.out; have hnc43 := NB288_297.out; obtain ⟨hcz44_0, hcz44_1, hcz44_2, hcz44_3, hfz44_0, hfz44_1, hfz44_2, hfz44_3⟩ := bz4 BK297) | ((with_reducible refine gate_callee (f := 32) rfl ?_); refine gl 24 Tryd.func32 #[.string t290] ?_; (with_reducible refine (impl_ReadVec.calls _ _ _ _ _ _ (texts.tabB HTAB.out (by repeat (first | (with_reducible first | exact HB.out | exact Below.refl _ _ | apply below_alloc | apply pw_below_drewN | apply below_drew1 | refine below_set ?_ GE288.out | refine below_set ?_ GE297.out | refine below_set ?_ GE301.out) | exact HB.out))) A4.out).mono ?_); rintro e w45 ⟨rfl, hb⟩; refine ⟨_, rfl, ?_⟩; replace BK288 := asd (blk_below (g := gb288) (o := .cells #[.int .i64 0, .int .i64 0, .int .i64 0, .int .i64 0, .int .i64 0, .int .i64 0] 35 (0, 0)) (bq1 BK288 NB288_297) hb); replace BK297 := asd (blk_below (g := gb297) (o := .cells #[.int .i64 t292, .int .i64 t293, .int .i64 t294, .int .i64 t295] 31 (0, 0)) (bq0 BK297) hb); replace HB := bS2 HB GE288 GE297 hb; (try clear hb)) | ((with_reducible refine gd 9 rfl ?_); refine bx #[.int .i64 0, .int .i64 0] 33 ?_; intro gb301 hg w46 BK301 hb; have GE301 := ngw2 hg HB GE288 GE297; replace HB := bS2 HB GE288 GE297 hb; have NB288_301 := nlt hg BK288; have NB301_288 := nsy (nlt hg BK288); replace BK288 := bB BK288 hb; have NB297_301 := nlt hg BK297; have NB301_297 := nsy (nlt hg BK297); replace BK297 := bB BK297 hb; clear hb hg; have hnb47 := NB301_288.out; have hnc47 := NB288_301.out; have hnb48 := NB301_297.out; have hnc48 := NB297_301.out; obtain ⟨hcz49_0, hcz49_1, hfz49_0, hfz49_1⟩ := bz2 BK301; obtain ⟨hcz50_0, hcz50_1, hcz50_2, hcz50_3, hcz50_4, hcz50_5, hfz50_0, hfz50_1, hfz50_2, hfz50_3, hfz50_4, hfz50_5⟩ := bz6 BK288))
  refine bodyPost_ret (results_ct rfl _ _ gb288 35 #[.int .i64 0, .int .i64 0, .int .i64 0, .int .i64 0, .int .i64 0, .int .i64 0] (0, 0) _ rfl (bq1 BK288 NB288_301) Tryd.underlying35 rfl (by kernel_rfl)) rfl ?_
  exact er (bbw3 HB GE288 GE297 GE301)
/-! ### laws_eqMat: function 34 -/
def laws_eqMat.f (a0_0 : Int) (a0_1 : Int) (a0_2 : Int) (a0_3 : Int) (a1_0 : Int) (a1_1 : Int) (a1_2 : Int) (a1_3 : Int) : Option (Bool) := if a0_0 = a1_0 then (if a0_1 = a1_1 then (if a0_2 = a1_2 then (if a0_3 = a1_3 then (some true) else (some false)) else (some false)) else (some false)) else (some false)
set_option maxHeartbeats 8000000 in
set_option maxRecDepth 100000 in
theorem laws_eqMat.calls (a0_0 : Int) (a0_1 : Int) (a0_2 : Int) (a0_3 : Int) (a1_0 : Int) (a1_1 : Int) (a1_2 : Int) (a1_3 : Int) (r : Bool) (w : World) (h : laws_eqMat.f a0_0 a0_1 a0_2 a0_3 a1_0 a1_1 a1_2 a1_3 = some r) :
  Calls Tryd.prog 34 #[.agg #[.int .i64 a0_0, .int .i64 a0_1, .int .i64 a0_2, .int .i64 a0_3], .agg #[.int .i64 a1_0, .int .i64 a1_1, .int .i64 a1_2, .int .i64 a1_3]] w fun e w' => e = .returned (.bool r) ∧ Below w.heap.size w w' := by
 have hu31 := Tryd.underlying31
 have HB := asd (Below.refl w.heap.size w)
 have H : (if a0_0 = a1_0 then (if a0_1 = a1_1 then (if a0_2 = a1_2 then (if a0_3 = a1_3 then (some true) else (some false)) else (some false)) else (some false)) else (some false)) = some r := h
 clear h
 by_cases c3 : a0_0 = a1_0
 rw [if_pos c3] at H
 have c3b0 : (a0_0 == a1_0) = true := beq_iff_eq.mpr c3
 have c3b1 : (a0_0 != a1_0) = false := bne_eq_false_iff_eq.mpr c3
 clear c3
 by_cases c4 : a0_1 = a1_1
 rw [if_pos c4] at H
 have c4b0 : (a0_1 == a1_1) = true := beq_iff_eq.mpr c4
 have c4b1 : (a0_1 != a1_1) = false := bne_eq_false_iff_eq.mpr c4
 clear c4
 by_cases c5 : a0_2 = a1_2
 rw [if_pos c5] at H
 have c5b0 : (a0_2 == a1_2) = true := beq_iff_eq.mpr c5
 have c5b1 : (a0_2 != a1_2) = false := bne_eq_false_iff_eq.mpr c5
 clear c5
 by_cases c6 : a0_3 = a1_3
 rw [if_pos c6] at H
 have c6b0 : (a0_3 == a1_3) = true := beq_iff_eq.mpr c6
 have c6b1 : (a0_3 != a1_3) = false := bne_eq_false_iff_eq.mpr c6
 clear c6
 obtain rfl := Option.some.inj H
 rotate_left
 rw [if_neg c6] at H
 have c6b0 : (a0_3 == a1_3) = false := beq_eq_false_iff_ne.mpr c6
 have c6b1 : (a0_3 != a1_3) = true := bne_iff_ne.mpr c6
 obtain rfl := Option.some.inj H
 rotate_left
 rw [if_neg c5] at H
 have c5b0 : (a0_2 == a1_2) = false := beq_eq_false_iff_ne.mpr c5
 have c5b1 : (a0_2 != a1_2) = true := bne_iff_ne.mpr c5
 obtain rfl := Option.some.inj H
 rotate_left
 rw [if_neg c4] at H
 have c4b0 : (a0_1 == a1_1) = false := beq_eq_false_iff_ne.mpr c4
 have c4b1 : (a0_1 != a1_1) = true := bne_iff_ne.mpr c4
 obtain rfl := Option.some.inj H
 rotate_left
 rw [if_neg c3] at H
 have c3b0 : (a0_0 == a1_0) = false := beq_eq_false_iff_ne.mpr c3
 have c3b1 : (a0_0 != a1_0) = true := bne_iff_ne.mpr c3
 obtain rfl := Option.some.inj H
 rotate_left
 all_goals
  go_enter Tryd.func34, Tryd.ntmps34
  go_wp2_with (first | ((with_reducible refine gd 2 rfl ?_); refine bx #[.int .i64 a0_0, .int .i64 a0_1, .int .i64 a0_2, .int .i64 a0_3] 31 ?_; intro gb303 hg w7 BK303 hb; have GE303 := ngw0 hg HB; replace HB := bS0 HB hb; clear hb hg) | ((with_reducible refine gd 3 rfl ?_); refine bx #[.int .i64 a1_0, .int .i64 a1_1, .int .i64 a1_2, .int .i64 a1_3] 31 ?_; intro gb304 hg w8 BK304 hb; have GE304 := ngw1 hg HB GE303; replace HB := bS1 HB GE303 hb; have NB303_304 := nlt hg BK303; have NB304_303 := nsy (nlt hg BK303); replace BK303 := bB BK303 hb; clear hb hg; have hnb9 := NB303_304.out; have hnc9 := NB304_303.out; obtain ⟨hcz10_0, hcz10_1, hcz10_2, hcz10_3, hfz10_0, hfz10_1, hfz10_2, hfz10_3⟩ := bz4 BK303; obtain ⟨hcz11_0, hcz11_1, hcz11_2, hcz11_3, hfz11_0, hfz11_1, hfz11_2, hfz11_3⟩ := bz4 BK304))
  go_ret
  exact er (bbw2 HB GE303 GE304)
/-! ### laws_eqVec: function 35 -/
def laws_eqVec.f (a0_0 : Int) (a0_1 : Int) (a1_0 : Int) (a1_1 : Int) : Option (Bool) := if a0_0 = a1_0 then (if a0_1 = a1_1 then (some true) else (some false)) else (some false)
set_option maxHeartbeats 8000000 in
set_option maxRecDepth 100000 in
theorem laws_eqVec.calls (a0_0 : Int) (a0_1 : Int) (a1_0 : Int) (a1_1 : Int) (r : Bool) (w : World) (h : laws_eqVec.f a0_0 a0_1 a1_0 a1_1 = some r) :
  Calls Tryd.prog 35 #[.agg #[.int .i64 a0_0, .int .i64 a0_1], .agg #[.int .i64 a1_0, .int .i64 a1_1]] w fun e w' => e = .returned (.bool r) ∧ Below w.heap.size w w' := by
 have hu33 := Tryd.underlying33
 have HB := asd (Below.refl w.heap.size w)
 have H : (if a0_0 = a1_0 then (if a0_1 = a1_1 then (some true) else (some false)) else (some false)) = some r := h
 clear h
 by_cases c3 : a0_0 = a1_0
 rw [if_pos c3] at H
 have c3b0 : (a0_0 == a1_0) = true := beq_iff_eq.mpr c3
 have c3b1 : (a0_0 != a1_0) = false := bne_eq_false_iff_eq.mpr c3
 clear c3
 by_cases c4 : a0_1 = a1_1
 rw [if_pos c4] at H
 have c4b0 : (a0_1 == a1_1) = true := beq_iff_eq.mpr c4
 have c4b1 : (a0_1 != a1_1) = false := bne_eq_false_iff_eq.mpr c4
 clear c4
 obtain rfl := Option.some.inj H
 rotate_left
 rw [if_neg c4] at H
 have c4b0 : (a0_1 == a1_1) = false := beq_eq_false_iff_ne.mpr c4
 have c4b1 : (a0_1 != a1_1) = true := bne_iff_ne.mpr c4
 obtain rfl := Option.some.inj H
 rotate_left
 rw [if_neg c3] at H
 have c3b0 : (a0_0 == a1_0) = false := beq_eq_false_iff_ne.mpr c3
 have c3b1 : (a0_0 != a1_0) = true := bne_iff_ne.mpr c3
 obtain rfl := Option.some.inj H
 rotate_left
 all_goals
  go_enter Tryd.func35, Tryd.ntmps35
  go_wp2_with (first | ((with_reducible refine gd 2 rfl ?_); refine bx #[.int .i64 a0_0, .int .i64 a0_1] 33 ?_; intro gb305 hg w5 BK305 hb; have GE305 := ngw0 hg HB; replace HB := bS0 HB hb; clear hb hg) | ((with_reducible refine gd 3 rfl ?_); refine bx #[.int .i64 a1_0, .int .i64 a1_1] 33 ?_; intro gb306 hg w6 BK306 hb; have GE306 := ngw1 hg HB GE305; replace HB := bS1 HB GE305 hb; have NB305_306 := nlt hg BK305; have NB306_305 := nsy (nlt hg BK305); replace BK305 := bB BK305 hb; clear hb hg; have hnb7 := NB305_306.out; have hnc7 := NB306_305.out; obtain ⟨hcz8_0, hcz8_1, hfz8_0, hfz8_1⟩ := bz2 BK305; obtain ⟨hcz9_0, hcz9_1, hfz9_0, hfz9_1⟩ := bz2 BK306))
  go_ret
  exact er (bbw2 HB GE305 GE306)
/-! ### laws_eqMotion: function 13 -/
def laws_eqMotion.f (a0_0 : Int) (a0_1 : Int) (a0_2 : Int) (a0_3 : Int) (a0_4 : Int) (a0_5 : Int) (a1_0 : Int) (a1_1 : Int) (a1_2 : Int) (a1_3 : Int) (a1_4 : Int) (a1_5 : Int) : Option (Bool) := (laws_eqMat.f a0_0 a0_1 a0_2 a0_3 a1_0 a1_1 a1_2 a1_3).bind fun t309 => (if t309 = true then ((laws_eqVec.f a0_4 a0_5 a1_4 a1_5).bind fun t310 => (if t310 = true then (some true) else (some false))) else (some false))
set_option maxHeartbeats 8000000 in
set_option maxRecDepth 100000 in
theorem laws_eqMotion.calls (a0_0 : Int) (a0_1 : Int) (a0_2 : Int) (a0_3 : Int) (a0_4 : Int) (a0_5 : Int) (a1_0 : Int) (a1_1 : Int) (a1_2 : Int) (a1_3 : Int) (a1_4 : Int) (a1_5 : Int) (r : Bool) (w : World) (h : laws_eqMotion.f a0_0 a0_1 a0_2 a0_3 a0_4 a0_5 a1_0 a1_1 a1_2 a1_3 a1_4 a1_5 = some r) :
  Calls Tryd.prog 13 #[.agg #[.int .i64 a0_0, .int .i64 a0_1, .int .i64 a0_2, .int .i64 a0_3, .int .i64 a0_4, .int .i64 a0_5], .agg #[.int .i64 a1_0, .int .i64 a1_1, .int .i64 a1_2, .int .i64 a1_3, .int .i64 a1_4, .int .i64 a1_5]] w fun e w' => e = .returned (.bool r) ∧ Below w.heap.size w w' := by
 have hu35 := Tryd.underlying35
 have hu31 := Tryd.underlying31
 have hu33 := Tryd.underlying33
 have HB := asd (Below.refl w.heap.size w)
 have H : ((laws_eqMat.f a0_0 a0_1 a0_2 a0_3 a1_0 a1_1 a1_2 a1_3).bind fun t309 => (if t309 = true then ((laws_eqVec.f a0_4 a0_5 a1_4 a1_5).bind fun t310 => (if t310 = true then (some true) else (some false))) else (some false))) = some r := h
 clear h
 obtain ⟨t309, A3, H⟩ := ob H
 try dsimp only at H
 by_cases c4 : t309 = true
 subst c4
 replace H := ifT H
 obtain ⟨t310, A5, H⟩ := ob H
 try dsimp only at H
 by_cases c6 : t310 = true
 subst c6
 replace H := ifT H
 obtain rfl := Option.some.inj H
 rotate_left
 replace c6 := Bool.eq_false_iff.mpr c6
 subst c6
 replace H := ifF H
 obtain rfl := Option.some.inj H
 rotate_left
 replace c4 := Bool.eq_false_iff.mpr c4
 subst c4
 replace H := ifF H
 obtain rfl := Option.some.inj H
 rotate_left
 all_goals
  go_enter Tryd.func13, Tryd.ntmps13
 rotate_left 2
 ·go_wp2_with (first | ((with_reducible refine gd 2 rfl ?_); refine bx #[.int .i64 a0_0, .int .i64 a0_1, .int .i64 a0_2, .int .i64 a0_3, .int .i64 a0_4, .int .i64 a0_5] 35 ?_; intro gb307 hg w25 BK307 hb; have GE307 := ngw0 hg HB; replace HB := bS0 HB hb; clear hb hg) | ((with_reducible refine gd 3 rfl ?_); refine bx #[.int .i64 a1_0, .int .i64 a1_1, .int .i64 a1_2, .int .i64 a1_3, .int .i64 a1_4, .int .i64 a1_5] 35 ?_; intro gb308 hg w26 BK308 hb; have GE308 := ngw1 hg HB GE307; replace HB := bS1 HB GE307 hb; have NB307_308 := nlt hg BK307; have NB308_307 := nsy (nlt hg BK307); replace BK307 := bB BK307 hb; clear hb hg; have hnb27 := NB307_308.out; have hnc27 := NB308_307.out; obtain ⟨hcz28_0, hcz28_1, hcz28_2, hcz28_3, hcz28_4, hcz28_5, hfz28_0, hfz28_1, hfz28_2, hfz28_3, hfz28_4, hfz28_5⟩ := bz6 BK307; obtain ⟨hcz29_0, hcz29_1, hcz29_2, hcz29_3, hcz29_4, hcz29_5, hfz29_0, hfz29_1, hfz29_2, hfz29_3, hfz29_4, hfz29_5⟩ := bz6 BK308) | ((with_reducible refine gate_callee (f := 34) rfl ?_); refine gl 9 Tryd.func34 #[.agg #[.int .i64 a0_0, .int .i64 a0_1, .int .i64 a0_2, .int .i64 a0_3], .agg #[.int .i64 a1_0, .int .i64 a1_1, .int .i64 a1_2, .int .i64 a1_3]] ?_; (with_reducible refine (laws_eqMat.calls _ _ _ _ _ _ _ _ _ _ A3.out).mono ?_); rintro e w30 ⟨rfl, hb⟩; refine ⟨_, rfl, ?_⟩; replace BK307 := bB BK307 hb; replace BK308 := bB BK308 hb; replace HB := bS2 HB GE307 GE308 hb; (try clear hb)))
  go_ret
  exact er (bbw2 HB GE307 GE308)
 all_goals
  go_wp2_with (first | ((with_reducible refine gd 2 rfl ?_); refine bx #[.int .i64 a0_0, .int .i64 a0_1, .int .i64 a0_2, .int .i64 a0_3, .int .i64 a0_4, .int .i64 a0_5] 35 ?_; intro gb307 hg w7 BK307 hb; have GE307 := ngw0 hg HB; replace HB := bS0 HB hb; clear hb hg) | ((with_reducible refine gd 3 rfl ?_); refine bx #[.int .i64 a1_0, .int .i64 a1_1, .int .i64 a1_2, .int .i64 a1_3, .int .i64 a1_4, .int .i64 a1_5] 35 ?_; intro gb308 hg w8 BK308 hb; have GE308 := ngw1 hg HB GE307; replace HB := bS1 HB GE307 hb; have NB307_308 := nlt hg BK307; have NB308_307 := nsy (nlt hg BK307); replace BK307 := bB BK307 hb; clear hb hg; have hnb9 := NB307_308.out; have hnc9 := NB308_307.out; obtain ⟨hcz10_0, hcz10_1, hcz10_2, hcz10_3, hcz10_4, hcz10_5, hfz10_0, hfz10_1, hfz10_2, hfz10_3, hfz10_4, hfz10_5⟩ := bz6 BK307; obtain ⟨hcz11_0, hcz11_1, hcz11_2, hcz11_3, hcz11_4, hcz11_5, hfz11_0, hfz11_1, hfz11_2, hfz11_3, hfz11_4, hfz11_5⟩ := bz6 BK308) | ((with_reducible refine gate_callee (f := 34) rfl ?_); refine gl 9 Tryd.func34 #[.agg #[.int .i64 a0_0, .int .i64 a0_1, .int .i64 a0_2, .int .i64 a0_3], .agg #[.int .i64 a1_0, .int .i64 a1_1, .int .i64 a1_2, .int .i64 a1_3]] ?_; (with_reducible refine (laws_eqMat.calls _ _ _ _ _ _ _ _ _ _ A3.out).mono ?_); rintro e w12 ⟨rfl, hb⟩; refine ⟨_, rfl, ?_⟩; replace BK307 := bB BK307 hb; replace BK308 := bB BK308 hb; replace HB := bS2 HB GE307 GE308 hb; (try clear hb); obtain ⟨hcz13_0, hcz13_1, hcz13_2, hcz13_3, hcz13_4, hcz13_5, hfz13_0, hfz13_1, hfz13_2, hfz13_3, hfz13_4, hfz13_5⟩ := bz6 BK307; obtain ⟨hcz14_0, hcz14_1, hcz14_2, hcz14_3, hcz14_4, hcz14_5, hfz14_0, hfz14_1, hfz14_2, hfz14_3, hfz14_4, hfz14_5⟩ := bz6 BK308) | ((with_reducible refine gate_callee (f := 35) rfl ?_); refine gl 15 Tryd.func35 #[.agg #[.int .i64 a0_4, .int .i64 a0_5], .agg #[.int .i64 a1_4, .int .i64 a1_5]] ?_; (with_reducible refine (laws_eqVec.calls _ _ _ _ _ _ A5.out).mono ?_); rintro e w15 ⟨rfl, hb⟩; refine ⟨_, rfl, ?_⟩; replace BK307 := bB BK307 hb; replace BK308 := bB BK308 hb; replace HB := bS2 HB GE307 GE308 hb; (try clear hb)))
  go_ret
  exact er (bbw2 HB GE307 GE308)
/-! ### laws_FnExactReadMotion: function 4 -/
def laws_FnExactReadMotion.f (k : Nat) (a0 : ByteArray) : Option (Bool) := if (a0.size : Int) > 1048576 then (some true) else ((spec_ReadMotion.f k a0).bind fun bt311 => ((impl_ReadMotion.f k a0).bind fun bt319 => ((laws_eqMotion.f bt319.1 bt319.2.1 bt319.2.2.1 bt319.2.2.2.1 bt319.2.2.2.2.1 bt319.2.2.2.2.2.1 bt311.1 bt311.2.1 bt311.2.2.1 bt311.2.2.2.1 bt311.2.2.2.2.1 bt311.2.2.2.2.2.1).bind fun t327 => (if t327 = true then (if (bt319.2.2.2.2.2.2 != bt311.2.2.2.2.2.2) = true then (some false) else (some true)) else (some false)))))
set_option maxHeartbeats 8000000 in
set_option maxRecDepth 100000 in
theorem laws_FnExactReadMotion.calls (k : Nat) (a0 : ByteArray) (w : World) (htab : texts.Tab w) (h : laws_FnExactReadMotion.f k a0 = some true) :
  Calls Tryd.prog 4 #[.string a0] w fun e w' => e = .returned (.bool true) ∧ Below w.heap.size w w' := by
 have HTAB := Aside0.mk htab
 clear htab
 have hu35 := Tryd.underlying35
 have HB := asd (Below.refl w.heap.size w)
 have H : (if (a0.size : Int) > 1048576 then (some true) else ((spec_ReadMotion.f k a0).bind fun bt311 => ((impl_ReadMotion.f k a0).bind fun bt319 => ((laws_eqMotion.f bt319.1 bt319.2.1 bt319.2.2.1 bt319.2.2.2.1 bt319.2.2.2.2.1 bt319.2.2.2.2.2.1 bt311.1 bt311.2.1 bt311.2.2.1 bt311.2.2.2.1 bt311.2.2.2.2.1 bt311.2.2.2.2.2.1).bind fun t327 => (if t327 = true then (if (bt319.2.2.2.2.2.2 != bt311.2.2.2.2.2.2) = true then (some false) else (some true)) else (some false)))))) = some true := h
 clear h
 by_cases c2 : (a0.size : Int) > 1048576
 ·rw [if_pos c2] at H
  have c2b0 : decide (1048576 < (a0.size : Int)) = true := decide_eq_true c2
  have c2b1 : decide (1048576 < a0.size) = true := decide_eq_true (by omega)
  clear c2
  clear H
  go_enter Tryd.func4, Tryd.ntmps4
  go_wp2
  go_ret
  exact er (bbw0 HB)
 ·rw [if_neg c2] at H
  have c2b0 : decide (1048576 < (a0.size : Int)) = false := decide_eq_false c2
  have c2b1 : decide (1048576 < a0.size) = false := decide_eq_false (by omega)
  clear c2
  obtain ⟨⟨t311, t312, t313, t314, t315, t316, t317⟩, A3, H⟩ := ob H
  try dsimp only at H
  obtain ⟨⟨t319, t320, t321, t322, t323, t324, t325⟩, A4, H⟩ := ob H
  try dsimp only at H
  obtain ⟨t327, A5, H⟩ := ob H
  try dsimp only at H
  by_cases c6 : t327 = true
  ·subst c6
   replace H := ifT H
   by_cases c7 : (t325 != t317) = true
   ·rw [if_pos c7] at H
    have c7b0 := c7
    (try (have c7b1 : decide (t325 = t317) = false := by simpa using c7))
    (try (have c7b2 : (t325 == t317) = false := by simpa using c7))
    (try (have c7b3 : ¬ (t325 = t317) := by simpa using c7))
    clear c7
    exact absurd H (by simp)
   ·rw [if_neg c7] at H
    have c7b0 : (t325 != t317) = false := by simpa using c7
    (try (have c7b1 : decide (t325 = t317) = true := by simpa using c7))
    (try (have c7b2 : (t325 == t317) = true := by simpa using c7))
    clear c7
    clear H
    go_enter Tryd.func4, Tryd.ntmps4
    go_wp2_with (first | ((with_reducible refine gate_callee (f := 11) rfl ?_); refine gl 12 Tryd.func11 #[.string a0] ?_; (with_reducible refine (spec_ReadMotion.calls _ _ _ _ _ _ _ _ _ _ A3.out).mono ?_); rintro e w8 ⟨rfl, hb⟩; refine ⟨_, rfl, ?_⟩; replace HB := bS0 HB hb; (try clear hb)) | ((with_reducible refine gd 3 rfl ?_); refine bx #[.int .i64 0, .int .i64 0, .int .i64 0, .int .i64 0, .int .i64 0, .int .i64 0] 35 ?_; intro gb318 hg w9 BK318 hb; have GE318 := ngw0 hg HB; replace HB := bS0 HB hb; clear hb hg; obtain ⟨hcz10_0, hcz10_1, hcz10_2, hcz10_3, hcz10_4, hcz10_5, hfz10_0, hfz10_1, hfz10_2, hfz10_3, hfz10_4, hfz10_5⟩ := bz6 BK318) | ((with_reducible refine gate_callee (f := 12) rfl ?_); refine gl 17 Tryd.func12 #[.string a0] ?_; (with_reducible refine (impl_ReadMotion.calls _ _ _ _ _ _ _ _ _ _ (texts.tabB HTAB.out (by repeat (first | (with_reducible first | exact HB.out | exact Below.refl _ _ | apply below_alloc | apply pw_below_drewN | apply below_drew1 | refine below_set ?_ GE318.out | refine below_set ?_ GE326.out) | exact HB.out))) A4.out).mono ?_); rintro e w11 ⟨rfl, hb⟩; refine ⟨_, rfl, ?_⟩; replace BK318 := asd (blk_below (g := gb318) (o := .cells #[.int .i64 t311, .int .i64 t312, .int .i64 t313, .int .i64 t314, .int .i64 t315, .int .i64 t316] 35 (0, 0)) (bq0 BK318) hb); replace HB := bS1 HB GE318 hb; (try clear hb)) | ((with_reducible refine gd 5 rfl ?_); refine bx #[.int .i64 0, .int .i64 0, .int .i64 0, .int .i64 0, .int .i64 0, .int .i64 0] 35 ?_; intro gb326 hg w12 BK326 hb; have GE326 := ngw1 hg HB GE318; replace HB := bS1 HB GE318 hb; have NB318_326 := nlt hg BK318; have NB326_318 := nsy (nlt hg BK318); replace BK318 := bB BK318 hb; clear hb hg; have hnb13 := NB326_318.out; have hnc13 := NB318_326.out; obtain ⟨hcz14_0, hcz14_1, hcz14_2, hcz14_3, hcz14_4, hcz14_5, hfz14_0, hfz14_1, hfz14_2, hfz14_3, hfz14_4, hfz14_5⟩ := bz6 BK326; obtain ⟨hcz15_0, hcz15_1, hcz15_2, hcz15_3, hcz15_4, hcz15_5, hfz15_0, hfz15_1, hfz15_2, hfz15_3, hfz15_4, hfz15_5⟩ := bz6 BK318) | ((with_reducible refine gate_callee (f := 13) rfl ?_); refine gl 22 Tryd.func13 #[.agg #[.int .i64 t319, .int .i64 t320, .int .i64 t321, .int .i64 t322, .int .i64 t323, .int .i64 t324], .agg #[.int .i64 t311, .int .i64 t312, .int .i64 t313, .int .i64 t314, .int .i64 t315, .int .i64 t316]] ?_; (with_reducible refine (laws_eqMotion.calls _ _ _ _ _ _ _ _ _ _ _ _ _ _ A5.out).mono ?_); rintro e w16 ⟨rfl, hb⟩; refine ⟨_, rfl, ?_⟩; replace BK318 := asd (blk_below (g := gb318) (o := .cells #[.int .i64 t311, .int .i64 t312, .int .i64 t313, .int .i64 t314, .int .i64 t315, .int .i64 t316] 35 (0, 0)) (bq1 BK318 NB318_326) hb); replace BK326 := asd (blk_below (g := gb326) (o := .cells #[.int .i64 t319, .int .i64 t320, .int .i64 t321, .int .i64 t322, .int .i64 t323, .int .i64 t324] 35 (0, 0)) (bq0 BK326) hb); replace HB := bS2 HB GE318 GE326 hb; (try clear hb)))
    go_ret
    exact er (bbw2 HB GE318 GE326)
  ·replace c6 := Bool.eq_false_iff.mpr c6
   subst c6
   replace H := ifF H
   exact absurd H (by simp)

/-- The one plain statement of laws_FnExactReadMotion. -/
def laws_FnExactReadMotion.Pure : Prop := ∀ (a0 : ByteArray), a0.size ≤ 140737488351232 → ∃ k, laws_FnExactReadMotion.f k a0 = some true
end Go.Proofs.YtfhbhjlgepjlfaaDoor.PM
