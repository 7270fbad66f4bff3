/- Walks written by program: each Go function that the law reaches comes to the plain function beside it. -/
import Derived.Test.YtkjdndikgekidaaDoorPBx0
import Derived.Test.YtkjdndikgekidaaDoorPBx2
import Derived.Test.YtkjdndikgekidaaDoorPBx4
namespace Go.Proofs.YtkjdndikgekidaaDoor.PB
open Go.RowKit Go.Proofs.YtkjdndikgekidaaDoorW.PrintWords Go.Proofs.YtkjdndikgekidaaDoorW.PrintLast Go.Proofs.YtkjdndikgekidaaDoorW.PrintMore
attribute [local go_sem] max2_int min2_int max_two min_two max_three min_three max_four min_four   -- for this text's walks alone
set_option linter.unusedVariables false
set_option linter.unusedSimpArgs false

/-! ### laws_toMat: function 35 -/
def laws_toMat.f (a0_0 : Int) (a0_1 : Int) (a0_2 : Int) (a0_3 : Int) : Option (Int × Int × Int × Int) := some (a0_0, a0_1, a0_2, a0_3)
set_option maxHeartbeats 8000000 in
set_option maxRecDepth 100000 in
theorem laws_toMat.calls (a0_0 : Int) (a0_1 : Int) (a0_2 : Int) (a0_3 : Int) (r1 : Int) (r2 : Int) (r3 : Int) (r4 : Int) (w : World) (h : laws_toMat.f a0_0 a0_1 a0_2 a0_3 = some (r1, r2, r3, r4)) :
  Calls Tryd.prog 35 #[.agg #[.int .i64 a0_0, .int .i64 a0_1, .int .i64 a0_2, .int .i64 a0_3]] w fun e w' => e = .returned (.agg #[.int .i64 r1, .int .i64 r2, .int .i64 r3, .int .i64 r4]) ∧ Below w.heap.size w w' := by
 have hu39 := Tryd.underlying39
 have hu45 := Tryd.underlying45
 have HB := asd (Below.refl w.heap.size w)
 have H : (some (a0_0, a0_1, a0_2, a0_3)) = some (r1, r2, r3, r4) := h
 clear h
 simp only [Option.some.injEq, Prod.mk.injEq] at H
 obtain ⟨rfl, rfl, rfl, rfl⟩ := H
 go_enter Tryd.func35, Tryd.ntmps35
 go_wp2_with (first | ((with_reducible refine gd 1 rfl ?_); refine bx #[.int .i64 a0_0, .int .i64 a0_1, .int .i64 a0_2, .int .i64 a0_3] 39 ?_; intro gb221 hg w2 BK221 hb; have GE221 := ngw0 hg HB; replace HB := bS0 HB hb; clear hb hg) | ((with_reducible refine gd 2 rfl ?_); refine bx #[.int .i64 0, .int .i64 0, .int .i64 0, .int .i64 0] 45 ?_; intro gb222 hg w3 BK222 hb; have GE222 := ngw1 hg HB GE221; replace HB := bS1 HB GE221 hb; have NB221_222 := nlt hg BK221; have NB222_221 := nsy (nlt hg BK221); replace BK221 := bB BK221 hb; clear hb hg) | ((with_reducible refine gd 3 rfl ?_); refine bx #[.int .i64 0, .int .i64 0, .int .i64 0, .int .i64 0] 45 ?_; intro gb223 hg w4 BK223 hb; have GE223 := ngw2 hg HB GE221 GE222; replace HB := bS2 HB GE221 GE222 hb; have NB221_223 := nlt hg BK221; have NB223_221 := nsy (nlt hg BK221); replace BK221 := bB BK221 hb; have NB222_223 := nlt hg BK222; have NB223_222 := nsy (nlt hg BK222); replace BK222 := bB BK222 hb; clear hb hg; have hnb5 := NB221_222.out; have hnc5 := NB222_221.out; have hnb6 := NB221_223.out; have hnc6 := NB223_221.out; obtain ⟨hcz7_0, hcz7_1, hcz7_2, hcz7_3, hfz7_0, hfz7_1, hfz7_2, hfz7_3⟩ := bz4 BK221; have hnb8 := NB223_222.out; have hnc8 := NB222_223.out; obtain ⟨hcz9_0, hcz9_1, hcz9_2, hcz9_3, hfz9_0, hfz9_1, hfz9_2, hfz9_3⟩ := bz4 BK223; obtain ⟨hcz10_0, hcz10_1, hcz10_2, hcz10_3, hfz10_0, hfz10_1, hfz10_2, hfz10_3⟩ := bz4 BK222))
 refine bodyPost_ret (results_cell_row rfl _ _ gb222 45 #[.int .i64 a0_0, .int .i64 a0_1, .int .i64 a0_2, .int .i64 a0_3] (0, 0) _ rfl (bq1 BK222 NB222_223) Tryd.underlying45 rfl (by kernel_rfl)) rfl ?_
 exact er (bbw3 HB GE221 GE222 GE223)
/-! ### laws_toVec: function 36 -/
def laws_toVec.f (a0_0 : Int) (a0_1 : Int) : Option (Int × Int) := some (a0_0, a0_1)
set_option maxHeartbeats 8000000 in
set_option maxRecDepth 100000 in
theorem laws_toVec.calls (a0_0 : Int) (a0_1 : Int) (r1 : Int) (r2 : Int) (w : World) (h : laws_toVec.f a0_0 a0_1 = some (r1, r2)) :
  Calls Tryd.prog 36 #[.agg #[.int .i64 a0_0, .int .i64 a0_1]] w fun e w' => e = .returned (.agg #[.int .i64 r1, .int .i64 r2]) ∧ Below w.heap.size w w' := by
 have hu41 := Tryd.underlying41
 have hu46 := Tryd.underlying46
 have HB := asd (Below.refl w.heap.size w)
 have H : (some (a0_0, a0_1)) = some (r1, r2) := h
 clear h
 simp only [Option.some.injEq, Prod.mk.injEq] at H
 obtain ⟨rfl, rfl⟩ := H
 go_enter Tryd.func36, Tryd.ntmps36
 go_wp2_with (first | ((with_reducible refine gd 1 rfl ?_); refine bx #[.int .i64 a0_0, .int .i64 a0_1] 41 ?_; intro gb224 hg w2 BK224 hb; have GE224 := ngw0 hg HB; replace HB := bS0 HB hb; clear hb hg) | ((with_reducible refine gd 2 rfl ?_); refine bx #[.int .i64 0, .int .i64 0] 46 ?_; intro gb225 hg w3 BK225 hb; have GE225 := ngw1 hg HB GE224; replace HB := bS1 HB GE224 hb; have NB224_225 := nlt hg BK224; have NB225_224 := nsy (nlt hg BK224); replace BK224 := bB BK224 hb; clear hb hg) | ((with_reducible refine gd 3 rfl ?_); refine bx #[.int .i64 0, .int .i64 0] 46 ?_; intro gb226 hg w4 BK226 hb; have GE226 := ngw2 hg HB GE224 GE225; replace HB := bS2 HB GE224 GE225 hb; have NB224_226 := nlt hg BK224; have NB226_224 := nsy (nlt hg BK224); replace BK224 := bB BK224 hb; have NB225_226 := nlt hg BK225; have NB226_225 := nsy (nlt hg BK225); replace BK225 := bB BK225 hb; clear hb hg; have hnb5 := NB224_225.out; have hnc5 := NB225_224.out; have hnb6 := NB224_226.out; have hnc6 := NB226_224.out; obtain ⟨hcz7_0, hcz7_1, hfz7_0, hfz7_1⟩ := bz2 BK224; have hnb8 := NB226_225.out; have hnc8 := NB225_226.out; obtain ⟨hcz9_0, hcz9_1, hfz9_0, hfz9_1⟩ := bz2 BK226; obtain ⟨hcz10_0, hcz10_1, hfz10_0, hfz10_1⟩ := bz2 BK225))
 refine bodyPost_ret (results_cell_row rfl _ _ gb225 46 #[.int .i64 a0_0, .int .i64 a0_1] (0, 0) _ rfl (bq1 BK225 NB225_226) Tryd.underlying46 rfl (by kernel_rfl)) rfl ?_
 exact er (bbw3 HB GE224 GE225 GE226)
/-! ### laws_toMotion: function 16 -/
def laws_toMotion.f (a0_0 : Int) (a0_1 : Int) (a0_2 : Int) (a0_3 : Int) (a0_4 : Int) (a0_5 : Int) : Option (Int × Int × Int × Int × Int × Int) := (laws_toMat.f a0_0 a0_1 a0_2 a0_3).bind fun bt230 => ((laws_toVec.f a0_4 a0_5).bind fun bt234 => (some (bt230.1, bt230.2.1, bt230.2.2.1, bt230.2.2.2, bt234.1, bt234.2)))
set_option maxHeartbeats 8000000 in
set_option maxRecDepth 100000 in
theorem laws_toMotion.calls (a0_0 : Int) (a0_1 : Int) (a0_2 : Int) (a0_3 : Int) (a0_4 : Int) (a0_5 : Int) (r1 : Int) (r2 : Int) (r3 : Int) (r4 : Int) (r5 : Int) (r6 : Int) (w : World) (h : laws_toMotion.f a0_0 a0_1 a0_2 a0_3 a0_4 a0_5 = some (r1, r2, r3, r4, r5, r6)) :
  Calls Tryd.prog 16 #[.agg #[.int .i64 a0_0, .int .i64 a0_1, .int .i64 a0_2, .int .i64 a0_3, .int .i64 a0_4, .int .i64 a0_5]] w fun e w' => e = .returned (.agg #[.int .i64 r1, .int .i64 r2, .int .i64 r3, .int .i64 r4, .int .i64 r5, .int .i64 r6]) ∧ Below w.heap.size w w' := by
 have hu43 := Tryd.underlying43
 have hu48 := Tryd.underlying48
 have hu39 := Tryd.underlying39
 have hu45 := Tryd.underlying45
 have hu41 := Tryd.underlying41
 have hu46 := Tryd.underlying46
 have HB := asd (Below.refl w.heap.size w)
 have H : ((laws_toMat.f a0_0 a0_1 a0_2 a0_3).bind fun bt230 => ((laws_toVec.f a0_4 a0_5).bind fun bt234 => (some (bt230.1, bt230.2.1, bt230.2.2.1, bt230.2.2.2, bt234.1, bt234.2)))) = some (r1, r2, r3, r4, r5, r6) := h
 clear h
 obtain ⟨⟨t230, t231, t232, t233⟩, A2, H⟩ := ob H
 try dsimp only at H
 obtain ⟨⟨t234, t235⟩, A3, H⟩ := ob H
 try dsimp only at H
 simp only [Option.some.injEq, Prod.mk.injEq] at H
 obtain ⟨rfl, rfl, rfl, rfl, rfl, rfl⟩ := H
 go_enter Tryd.func16, Tryd.ntmps16
 go_wp2_with (first | ((with_reducible refine gd 1 rfl ?_); refine bx #[.int .i64 a0_0, .int .i64 a0_1, .int .i64 a0_2, .int .i64 a0_3, .int .i64 a0_4, .int .i64 a0_5] 43 ?_; intro gb227 hg w4 BK227 hb; have GE227 := ngw0 hg HB; replace HB := bS0 HB hb; clear hb hg) | ((with_reducible refine gd 2 rfl ?_); refine bx #[.int .i64 0, .int .i64 0, .int .i64 0, .int .i64 0, .int .i64 0, .int .i64 0] 48 ?_; intro gb228 hg w5 BK228 hb; have GE228 := ngw1 hg HB GE227; replace HB := bS1 HB GE227 hb; have NB227_228 := nlt hg BK227; have NB228_227 := nsy (nlt hg BK227); replace BK227 := bB BK227 hb; clear hb hg) | ((with_reducible refine gd 3 rfl ?_); refine bx #[.int .i64 0, .int .i64 0, .int .i64 0, .int .i64 0, .int .i64 0, .int .i64 0] 48 ?_; intro gb229 hg w6 BK229 hb; have GE229 := ngw2 hg HB GE227 GE228; replace HB := bS2 HB GE227 GE228 hb; have NB227_229 := nlt hg BK227; have NB229_227 := nsy (nlt hg BK227); replace BK227 := bB BK227 hb; have NB228_229 := nlt hg BK228; have NB229_228 := nsy (nlt hg BK228); replace BK228 := bB BK228 hb; clear hb hg; have hnb7 := NB227_228.out; have hnc7 := NB228_227.out; have hnb8 := NB227_229.out; have hnc8 := NB229_227.out; obtain ⟨hcz9_0, hcz9_1, hcz9_2, hcz9_3, hcz9_4, hcz9_5, hfz9_0, hfz9_1, hfz9_2, hfz9_3, hfz9_4, hfz9_5⟩ := bz6 BK227) | ((with_reducible refine gate_callee (f := 35) rfl ?_); refine gl 6 Tryd.func35 #[.agg #[.int .i64 a0_0, .int .i64 a0_1, .int .i64 a0_2, .int .i64 a0_3]] ?_; (with_reducible refine (laws_toMat.calls _ _ _ _ _ _ _ _ _ A2.out).mono ?_); rintro e w10 ⟨rfl, hb⟩; refine ⟨_, rfl, ?_⟩; replace BK227 := bB BK227 hb; replace BK228 := bB BK228 hb; replace BK229 := bB BK229 hb; replace HB := bS3 HB GE227 GE228 GE229 hb; (try clear hb); have hnb11 := NB229_228.out; have hnc11 := NB228_229.out; obtain ⟨hcz12_0, hcz12_1, hcz12_2, hcz12_3, hcz12_4, hcz12_5, hfz12_0, hfz12_1, hfz12_2, hfz12_3, hfz12_4, hfz12_5⟩ := bz6 BK229; obtain ⟨hcz13_0, hcz13_1, hcz13_2, hcz13_3, hcz13_4, hcz13_5, hfz13_0, hfz13_1, hfz13_2, hfz13_3, hfz13_4, hfz13_5⟩ := bz6 BK227) | ((with_reducible refine gate_callee (f := 36) rfl ?_); refine gl 10 Tryd.func36 #[.agg #[.int .i64 a0_4, .int .i64 a0_5]] ?_; (with_reducible refine (laws_toVec.calls _ _ _ _ _ A3.out).mono ?_); rintro e w14 ⟨rfl, hb⟩; refine ⟨_, rfl, ?_⟩; replace BK227 := asd (blk_below (g := gb227) (o := .cells #[.int .i64 a0_0, .int .i64 a0_1, .int .i64 a0_2, .int .i64 a0_3, .int .i64 a0_4, .int .i64 a0_5] 43 (0, 0)) (bq1 BK227 NB227_229) hb); replace BK228 := asd (blk_below (g := gb228) (o := .cells #[.int .i64 0, .int .i64 0, .int .i64 0, .int .i64 0, .int .i64 0, .int .i64 0] 48 (0, 0)) (bq1 BK228 NB228_229) hb); replace BK229 := asd (blk_below (g := gb229) (o := .cells #[.int .i64 t230, .int .i64 t231, .int .i64 t232, .int .i64 t233, .int .i64 0, .int .i64 0] 48 (0, 0)) (bq0 BK229) hb); replace HB := bS3 HB GE227 GE228 GE229 hb; (try clear hb); obtain ⟨hcz15_0, hcz15_1, hcz15_2, hcz15_3, hcz15_4, hcz15_5, hfz15_0, hfz15_1, hfz15_2, hfz15_3, hfz15_4, hfz15_5⟩ := bz6 BK229; obtain ⟨hcz16_0, hcz16_1, hcz16_2, hcz16_3, hcz16_4, hcz16_5, hfz16_0, hfz16_1, hfz16_2, hfz16_3, hfz16_4, hfz16_5⟩ := bz6 BK228))
 refine bodyPost_ret (results_cell_row rfl _ _ gb228 48 #[.int .i64 t230, .int .i64 t231, .int .i64 t232, .int .i64 t233, .int .i64 t234, .int .i64 t235] (0, 0) _ rfl (bq1 BK228 NB228_229) Tryd.underlying48 rfl (by kernel_rfl)) rfl ?_
 exact er (bbw3 HB GE227 GE228 GE229)
/-! ### impl_isCoordinate: function 86 -/
def impl_isCoordinate.f (a0 : Int) : Option (Bool) := (impl_within.f a0 (-1000) 1000).bind fun t236 => (some t236)
set_option maxHeartbeats 8000000 in
set_option maxRecDepth 100000 in
theorem impl_isCoordinate.calls (a0 : Int) (r : Bool) (w : World) (h : impl_isCoordinate.f a0 = some r) :
  Calls Tryd.prog 86 #[.int .i64 a0] w fun e w' => e = .returned (.bool r) ∧ Drawn0 w w' := by
 have H : ((impl_within.f a0 (-1000) 1000).bind fun t236 => (some t236)) = some r := h
 clear h
 obtain ⟨t236, A2, H⟩ := ob H
 try dsimp only at H
 obtain rfl := Option.some.inj H
 go_enter Tryd.func86, Tryd.ntmps86
 go_wp2_with (first | ((with_reducible refine gate_callee (f := 54) rfl ?_); refine gl 4 Tryd.func54 #[.int .i64 a0, .int .i64 (-1000), .int .i64 1000] ?_; (with_reducible refine (impl_within.calls _ _ _ _ _ A2.out).mono ?_); rintro e w' ⟨rfl, ⟨nd, rfl⟩⟩; refine ⟨_, rfl, ?_⟩))
 go_ret
 exact ⟨by first | rfl | (simp; done) | (simp [*]; done), by repeat (first | exact Drawn0.refl _ | apply Drawn0.step)⟩
/-! ### impl_Mat_isSmall: function 82 -/
def impl_Mat_isSmall.f (a0_0 : Int) (a0_1 : Int) (a0_2 : Int) (a0_3 : Int) : Option (Bool) := (impl_isCoordinate.f a0_0).bind fun t238 => (if t238 = true then ((impl_isCoordinate.f a0_1).bind fun t239 => (if t239 = true then ((impl_isCoordinate.f a0_2).bind fun t240 => (if t240 = true then ((impl_isCoordinate.f a0_3).bind fun t241 => (some t241)) else (some false))) else (some false))) else (some false))
set_option maxHeartbeats 8000000 in
set_option maxRecDepth 100000 in
theorem impl_Mat_isSmall.calls (a0_0 : Int) (a0_1 : Int) (a0_2 : Int) (a0_3 : Int) (r : Bool) (w : World) (h : impl_Mat_isSmall.f a0_0 a0_1 a0_2 a0_3 = some r) :
  Calls Tryd.prog 82 #[.agg #[.int .i64 a0_0, .int .i64 a0_1, .int .i64 a0_2, .int .i64 a0_3]] w fun e w' => e = .returned (.bool r) ∧ Below w.heap.size w w' := by
 have hu45 := Tryd.underlying45
 have HB := asd (Below.refl w.heap.size w)
 have H : ((impl_isCoordinate.f a0_0).bind fun t238 => (if t238 = true then ((impl_isCoordinate.f a0_1).bind fun t239 => (if t239 = true then ((impl_isCoordinate.f a0_2).bind fun t240 => (if t240 = true then ((impl_isCoordinate.f a0_3).bind fun t241 => (some t241)) else (some false))) else (some false))) else (some false))) = some r := h
 clear h
 obtain ⟨t238, A2, H⟩ := ob H
 try dsimp only at H
 by_cases c3 : t238 = true
 subst c3
 replace H := ifT H
 obtain ⟨t239, A4, H⟩ := ob H
 try dsimp only at H
 by_cases c5 : t239 = true
 subst c5
 replace H := ifT H
 obtain ⟨t240, A6, H⟩ := ob H
 try dsimp only at H
 by_cases c7 : t240 = true
 subst c7
 replace H := ifT H
 obtain ⟨t241, A8, H⟩ := ob H
 try dsimp only at H
 obtain rfl := Option.some.inj H
 rotate_left
 replace c7 := Bool.eq_false_iff.mpr c7
 subst c7
 replace H := ifF H
 obtain rfl := Option.some.inj H
 rotate_left
 replace c5 := Bool.eq_false_iff.mpr c5
 subst c5
 replace H := ifF H
 obtain rfl := Option.some.inj H
 rotate_left
 replace c3 := Bool.eq_false_iff.mpr c3
 subst c3
 replace H := ifF H
 obtain rfl := Option.some.inj H
 rotate_left
 all_goals
  go_enter Tryd.func82, Tryd.ntmps82
  go_wp2_with (first | ((with_reducible refine gd 1 rfl ?_); refine bx #[.int .i64 a0_0, .int .i64 a0_1, .int .i64 a0_2, .int .i64 a0_3] 45 ?_; intro gb237 hg w9 BK237 hb; have GE237 := ngw0 hg HB; replace HB := bS0 HB hb; clear hb hg; obtain ⟨hcz10_0, hcz10_1, hcz10_2, hcz10_3, hfz10_0, hfz10_1, hfz10_2, hfz10_3⟩ := bz4 BK237) | ((with_reducible refine gate_callee (f := 86) rfl ?_); refine gl 5 Tryd.func86 #[.int .i64 a0_0] ?_; (with_reducible refine (impl_isCoordinate.calls _ _ _ A2.out).mono ?_); rintro e w' ⟨rfl, ⟨nd, rfl⟩⟩; refine ⟨_, rfl, ?_⟩) | (go_at_call 86; (with_reducible refine (impl_isCoordinate.calls _ _ _ A4.out).mono ?_); rintro e w' ⟨rfl, ⟨nd, rfl⟩⟩) | (go_at_call 86; (with_reducible refine (impl_isCoordinate.calls _ _ _ A6.out).mono ?_); rintro e w' ⟨rfl, ⟨nd, rfl⟩⟩) | (go_at_call 86; (with_reducible refine (impl_isCoordinate.calls _ _ _ A8.out).mono ?_); rintro e w' ⟨rfl, ⟨nd, rfl⟩⟩))
  go_ret
  exact er (bbw1 HB GE237)
/-! ### impl_Mat_det: function 83 -/
def impl_Mat_det.f (a0_0 : Int) (a0_1 : Int) (a0_2 : Int) (a0_3 : Int) : Option (Int) := some (wrap64 ((wrap64 (a0_0 * a0_3)) - (wrap64 (a0_1 * a0_2))))
set_option maxHeartbeats 8000000 in
set_option maxRecDepth 100000 in
theorem impl_Mat_det.calls (a0_0 : Int) (a0_1 : Int) (a0_2 : Int) (a0_3 : Int) (r : Int) (w : World) (h : impl_Mat_det.f a0_0 a0_1 a0_2 a0_3 = some r) :
  Calls Tryd.prog 83 #[.agg #[.int .i64 a0_0, .int .i64 a0_1, .int .i64 a0_2, .int .i64 a0_3]] w fun e w' => e = .returned (.int .i64 r) ∧ Below w.heap.size w w' := by
 have hu45 := Tryd.underlying45
 have HB := asd (Below.refl w.heap.size w)
 have H : (some (wrap64 ((wrap64 (a0_0 * a0_3)) - (wrap64 (a0_1 * a0_2))))) = some r := h
 clear h
 obtain rfl := Option.some.inj H
 go_enter Tryd.func83, Tryd.ntmps83
 go_wp2_with (first | ((with_reducible refine gd 1 rfl ?_); refine bx #[.int .i64 a0_0, .int .i64 a0_1, .int .i64 a0_2, .int .i64 a0_3] 45 ?_; intro gb242 hg w2 BK242 hb; have GE242 := ngw0 hg HB; replace HB := bS0 HB hb; clear hb hg; obtain ⟨hcz3_0, hcz3_1, hcz3_2, hcz3_3, hfz3_0, hfz3_1, hfz3_2, hfz3_3⟩ := bz4 BK242))
 go_ret
 exact er (bbw1 HB GE242)
/-! ### impl_IsMat: function 64 -/
def impl_IsMat.f (a0_0 : Int) (a0_1 : Int) (a0_2 : Int) (a0_3 : Int) : Option (Bool) := (impl_Mat_isSmall.f a0_0 a0_1 a0_2 a0_3).bind fun t244 => (if t244 = true then ((impl_Mat_det.f a0_0 a0_1 a0_2 a0_3).bind fun t245 => (if t245 = 1 then (some true) else ((impl_Mat_det.f a0_0 a0_1 a0_2 a0_3).bind fun t246 => (some (t246 == (-1)))))) else (some false))
set_option maxHeartbeats 8000000 in
set_option maxRecDepth 100000 in
theorem impl_IsMat.calls (a0_0 : Int) (a0_1 : Int) (a0_2 : Int) (a0_3 : Int) (r : Bool) (w : World) (h : impl_IsMat.f a0_0 a0_1 a0_2 a0_3 = some r) :
  Calls Tryd.prog 64 #[.agg #[.int .i64 a0_0, .int .i64 a0_1, .int .i64 a0_2, .int .i64 a0_3]] w fun e w' => e = .returned (.bool r) ∧ Below w.heap.size w w' := by
 have hu45 := Tryd.underlying45
 have HB := asd (Below.refl w.heap.size w)
 have H : ((impl_Mat_isSmall.f a0_0 a0_1 a0_2 a0_3).bind fun t244 => (if t244 = true then ((impl_Mat_det.f a0_0 a0_1 a0_2 a0_3).bind fun t245 => (if t245 = 1 then (some true) else ((impl_Mat_det.f a0_0 a0_1 a0_2 a0_3).bind fun t246 => (some (t246 == (-1)))))) else (some false))) = some r := h
 clear h
 obtain ⟨t244, A2, H⟩ := ob H
 try dsimp only at H
 by_cases c3 : t244 = true
 ·subst c3
  replace H := ifT H
  obtain ⟨t245, A4, H⟩ := ob H
  try dsimp only at H
  by_cases c5 : t245 = 1
  ·rw [if_pos c5] at H
   have c5b0 : (t245 == 1) = true := beq_iff_eq.mpr c5
   have c5b1 : (t245 != 1) = false := bne_eq_false_iff_eq.mpr c5
   clear c5
   obtain rfl := Option.some.inj H
   go_enter Tryd.func64, Tryd.ntmps64
   go_wp2_with (first | ((with_reducible refine gd 1 rfl ?_); refine bx #[.int .i64 a0_0, .int .i64 a0_1, .int .i64 a0_2, .int .i64 a0_3] 45 ?_; intro gb243 hg w6 BK243 hb; have GE243 := ngw0 hg HB; replace HB := bS0 HB hb; clear hb hg; obtain ⟨hcz7_0, hcz7_1, hcz7_2, hcz7_3, hfz7_0, hfz7_1, hfz7_2, hfz7_3⟩ := bz4 BK243) | ((with_reducible refine gate_callee (f := 82) rfl ?_); refine gl 4 Tryd.func82 #[.agg #[.int .i64 a0_0, .int .i64 a0_1, .int .i64 a0_2, .int .i64 a0_3]] ?_; (with_reducible refine (impl_Mat_isSmall.calls _ _ _ _ _ _ A2.out).mono ?_); rintro e w8 ⟨rfl, hb⟩; refine ⟨_, rfl, ?_⟩; replace BK243 := bB BK243 hb; replace HB := bS1 HB GE243 hb; (try clear hb); obtain ⟨hcz9_0, hcz9_1, hcz9_2, hcz9_3, hfz9_0, hfz9_1, hfz9_2, hfz9_3⟩ := bz4 BK243) | (go_at_call 83; (with_reducible refine (impl_Mat_det.calls _ _ _ _ _ _ A4.out).mono ?_); rintro e w10 ⟨rfl, hb⟩; replace BK243 := bB BK243 hb; replace HB := bS1 HB GE243 hb; (try clear hb)))
   go_ret
   exact er (bbw1 HB GE243)
  ·rw [if_neg c5] at H
   have c5b0 : (t245 == 1) = false := beq_eq_false_iff_ne.mpr c5
   have c5b1 : (t245 != 1) = true := bne_iff_ne.mpr c5
   obtain ⟨t246, A11, H⟩ := ob H
   try dsimp only at H
   have e_ : t245 = t246 := Option.some.inj (A4.out.symm.trans A11.out)
   subst e_
   obtain rfl := Option.some.inj H
   go_enter Tryd.func64, Tryd.ntmps64
   go_wp2_with (first | ((with_reducible refine gd 1 rfl ?_); refine bx #[.int .i64 a0_0, .int .i64 a0_1, .int .i64 a0_2, .int .i64 a0_3] 45 ?_; intro gb243 hg w12 BK243 hb; have GE243 := ngw0 hg HB; replace HB := bS0 HB hb; clear hb hg; obtain ⟨hcz13_0, hcz13_1, hcz13_2, hcz13_3, hfz13_0, hfz13_1, hfz13_2, hfz13_3⟩ := bz4 BK243) | ((with_reducible refine gate_callee (f := 82) rfl ?_); refine gl 4 Tryd.func82 #[.agg #[.int .i64 a0_0, .int .i64 a0_1, .int .i64 a0_2, .int .i64 a0_3]] ?_; (with_reducible refine (impl_Mat_isSmall.calls _ _ _ _ _ _ A2.out).mono ?_); rintro e w14 ⟨rfl, hb⟩; refine ⟨_, rfl, ?_⟩; replace BK243 := bB BK243 hb; replace HB := bS1 HB GE243 hb; (try clear hb); obtain ⟨hcz15_0, hcz15_1, hcz15_2, hcz15_3, hfz15_0, hfz15_1, hfz15_2, hfz15_3⟩ := bz4 BK243) | (go_at_call 83; (with_reducible refine (impl_Mat_det.calls _ _ _ _ _ _ A4.out).mono ?_); rintro e w16 ⟨rfl, hb⟩; replace BK243 := bB BK243 hb; replace HB := bS1 HB GE243 hb; (try clear hb); obtain ⟨hcz17_0, hcz17_1, hcz17_2, hcz17_3, hfz17_0, hfz17_1, hfz17_2, hfz17_3⟩ := bz4 BK243) | (go_at_call 83; (with_reducible refine (impl_Mat_det.calls _ _ _ _ _ _ A11.out).mono ?_); rintro e w18 ⟨rfl, hb⟩; replace BK243 := bB BK243 hb; replace HB := bS1 HB GE243 hb; (try clear hb)))
   go_ret
   exact er (bbw1 HB GE243)
 ·replace c3 := Bool.eq_false_iff.mpr c3
  subst c3
  replace H := ifF H
  obtain rfl := Option.some.inj H
  go_enter Tryd.func64, Tryd.ntmps64
  go_wp2_with (first | ((with_reducible refine gd 1 rfl ?_); refine bx #[.int .i64 a0_0, .int .i64 a0_1, .int .i64 a0_2, .int .i64 a0_3] 45 ?_; intro gb243 hg w19 BK243 hb; have GE243 := ngw0 hg HB; replace HB := bS0 HB hb; clear hb hg; obtain ⟨hcz20_0, hcz20_1, hcz20_2, hcz20_3, hfz20_0, hfz20_1, hfz20_2, hfz20_3⟩ := bz4 BK243) | ((with_reducible refine gate_callee (f := 82) rfl ?_); refine gl 4 Tryd.func82 #[.agg #[.int .i64 a0_0, .int .i64 a0_1, .int .i64 a0_2, .int .i64 a0_3]] ?_; (with_reducible refine (impl_Mat_isSmall.calls _ _ _ _ _ _ A2.out).mono ?_); rintro e w21 ⟨rfl, hb⟩; refine ⟨_, rfl, ?_⟩; replace BK243 := bB BK243 hb; replace HB := bS1 HB GE243 hb; (try clear hb)))
  go_ret
  exact er (bbw1 HB GE243)
/-! ### impl_unit: function 103 -/
def impl_unit.f  : Option (Int × Int × Int × Int) := some (1, 0, 0, 1)
set_option maxHeartbeats 8000000 in
set_option maxRecDepth 100000 in
theorem impl_unit.calls  (r1 : Int) (r2 : Int) (r3 : Int) (r4 : Int) (w : World) (h : impl_unit.f  = some (r1, r2, r3, r4)) :
  Calls Tryd.prog 103 #[] w fun e w' => e = .returned (.agg #[.int .i64 r1, .int .i64 r2, .int .i64 r3, .int .i64 r4]) ∧ Below w.heap.size w w' := by
 have hu45 := Tryd.underlying45
 have HB := asd (Below.refl w.heap.size w)
 have H : (some (1, 0, 0, 1)) = some (r1, r2, r3, r4) := h
 clear h
 simp only [Option.some.injEq, Prod.mk.injEq] at H
 obtain ⟨rfl, rfl, rfl, rfl⟩ := H
 go_enter Tryd.func103, Tryd.ntmps103
 go_wp2_with (first | ((with_reducible refine gd 0 rfl ?_); refine bx #[.int .i64 0, .int .i64 0, .int .i64 0, .int .i64 0] 45 ?_; intro gb247 hg w1 BK247 hb; have GE247 := ngw0 hg HB; replace HB := bS0 HB hb; clear hb hg; obtain ⟨hcz2_0, hcz2_1, hcz2_2, hcz2_3, hfz2_0, hfz2_1, hfz2_2, hfz2_3⟩ := bz4 BK247))
 refine bodyPost_ret (results_cell_row rfl _ _ gb247 45 #[.int .i64 1, .int .i64 0, .int .i64 0, .int .i64 1] (0, 0) _ rfl (bq0 BK247) Tryd.underlying45 rfl (by kernel_rfl)) rfl ?_
 exact er (bbw1 HB GE247)

attribute [local go_sem high] eqA45
/-! ### impl_Mat_order: function 96 -/
mutual
def impl_Mat_order.j0 : Nat → Int → Bool → Int → Int → Int → Int → Option (Int)
 | 0, _, _, _, _, _, _ => none
 | k + 1, x3, x13, x249000, x249001, x249002, x249003 => if x13 = true then (impl_Mat_order.j1 k x3 x13 x249000 x249001 x249002 x249003) else (impl_Mat_order.j1 k x3 (x249000 == (-1) && (x249001 == 0 && (x249002 == 0 && (x249003 == (-1))))) x249000 x249001 x249002 x249003)
def impl_Mat_order.j1 : Nat → Int → Bool → Int → Int → Int → Int → Option (Int)
 | 0, _, _, _, _, _, _ => none
 | k + 1, x3, x13, x249000, x249001, x249002, x249003 => if x13 = true then (some 2) else ((impl_Mat_det.f x249000 x249001 x249002 x249003).bind fun t254 => (if t254 = 1 then (impl_Mat_order.j2 k x3 (x3 == (-1)) x249000 x249001 x249002 x249003) else (impl_Mat_order.j2 k x3 false x249000 x249001 x249002 x249003)))
def impl_Mat_order.j2 : Nat → Int → Bool → Int → Int → Int → Int → Option (Int)
 | 0, _, _, _, _, _, _ => none
 | k + 1, x3, x24, x249000, x249001, x249002, x249003 => if x24 = true then (some 3) else ((impl_Mat_det.f x249000 x249001 x249002 x249003).bind fun t255 => (if t255 = 1 then (impl_Mat_order.j3 k x3 (x3 == 0) x249000 x249001 x249002 x249003) else (impl_Mat_order.j3 k x3 false x249000 x249001 x249002 x249003)))
def impl_Mat_order.j3 : Nat → Int → Bool → Int → Int → Int → Int → Option (Int)
 | 0, _, _, _, _, _, _ => none
 | k + 1, x3, x32, x249000, x249001, x249002, x249003 => if x32 = true then (some 4) else ((impl_Mat_det.f x249000 x249001 x249002 x249003).bind fun t256 => (if t256 = 1 then (if x3 = 1 then (some 6) else (some 0)) else (some 0)))
end
def impl_Mat_order.f (k : Nat) (a0_0 : Int) (a0_1 : Int) (a0_2 : Int) (a0_3 : Int) : Option (Int) := (impl_unit.f).bind fun bt249 => (if (a0_0 == bt249.1 && (a0_1 == bt249.2.1 && (a0_2 == bt249.2.2.1 && (a0_3 == bt249.2.2.2)))) = true then (some 1) else ((impl_Mat_det.f a0_0 a0_1 a0_2 a0_3).bind fun t253 => (if t253 = (-1) then (impl_Mat_order.j0 k (wrap64 (a0_0 + a0_3)) ((wrap64 (a0_0 + a0_3)) == 0) a0_0 a0_1 a0_2 a0_3) else (impl_Mat_order.j0 k (wrap64 (a0_0 + a0_3)) false a0_0 a0_1 a0_2 a0_3))))
set_option maxHeartbeats 8000000 in
set_option maxRecDepth 100000 in
theorem impl_Mat_order.calls (k : Nat) (a0_0 : Int) (a0_1 : Int) (a0_2 : Int) (a0_3 : Int) (r : Int) (w : World) (h : impl_Mat_order.f k a0_0 a0_1 a0_2 a0_3 = some r) :
  Calls Tryd.prog 96 #[.agg #[.int .i64 a0_0, .int .i64 a0_1, .int .i64 a0_2, .int .i64 a0_3]] w fun e w' => e = .returned (.int .i64 r) ∧ Below w.heap.size w w' := by
 have hu45 := Tryd.underlying45
 have HB := asd (Below.refl w.heap.size w)
 have H : ((impl_unit.f).bind fun bt249 => (if (a0_0 == bt249.1 && (a0_1 == bt249.2.1 && (a0_2 == bt249.2.2.1 && (a0_3 == bt249.2.2.2)))) = true then (some 1) else ((impl_Mat_det.f a0_0 a0_1 a0_2 a0_3).bind fun t253 => (if t253 = (-1) then (impl_Mat_order.j0 k (wrap64 (a0_0 + a0_3)) ((wrap64 (a0_0 + a0_3)) == 0) a0_0 a0_1 a0_2 a0_3) else (impl_Mat_order.j0 k (wrap64 (a0_0 + a0_3)) false a0_0 a0_1 a0_2 a0_3))))) = some r := h
 clear h
 obtain ⟨⟨t249, t250, t251, t252⟩, A2, H⟩ := ob H
 try dsimp only at H
 by_cases c3 : (a0_0 == t249 && (a0_1 == t250 && (a0_2 == t251 && (a0_3 == t252)))) = true
 rw [if_pos c3] at H
 have c3b0 := c3
 (try (have c3b1 : decide (a0_0 = t249 && (a0_1 == t250 && (a0_2 == t251 && (a0_3 == t252)))) = true := by simpa using c3))
 (try (have c3b2 : (a0_0 == t249 && (a0_1 == t250 && (a0_2 == t251 && (a0_3 == t252)))) = true := by simpa using c3))
 clear c3
 obtain rfl := Option.some.inj H
 rotate_left
 rw [if_neg c3] at H
 have c3b0 : (a0_0 == t249 && (a0_1 == t250 && (a0_2 == t251 && (a0_3 == t252)))) = false := by simpa using c3
 (try (have c3b1 : decide (a0_0 = t249 && (a0_1 == t250 && (a0_2 == t251 && (a0_3 == t252)))) = false := by simpa using c3))
 (try (have c3b2 : (a0_0 == t249 && (a0_1 == t250 && (a0_2 == t251 && (a0_3 == t252)))) = false := by simpa using c3))
 (try (have c3b3 : ¬ (a0_0 = t249 && (a0_1 == t250 && (a0_2 == t251 && (a0_3 == t252)))) := by simpa using c3))
 clear c3
 rotate_left
 go_enter Tryd.func96, Tryd.ntmps96
 try go_wp2_with (first | ((with_reducible refine gd 1 rfl ?_); refine bx #[.int .i64 a0_0, .int .i64 a0_1, .int .i64 a0_2, .int .i64 a0_3] 45 ?_; intro gb248 hg w4 BK248 hb; have GE248 := ngw0 hg HB; replace HB := bS0 HB hb; clear hb hg; obtain ⟨hcz5_0, hcz5_1, hcz5_2, hcz5_3, hfz5_0, hfz5_1, hfz5_2, hfz5_3⟩ := bz4 BK248))
 rotate_left
 have HC8 := Aside0.mk H
 clear H
 go_enter Tryd.func96, Tryd.ntmps96
 try go_wp2_with (first | ((with_reducible refine gd 1 rfl ?_); refine bx #[.int .i64 a0_0, .int .i64 a0_1, .int .i64 a0_2, .int .i64 a0_3] 45 ?_; intro gb248 hg w4 BK248 hb; have GE248 := ngw0 hg HB; replace HB := bS0 HB hb; clear hb hg; obtain ⟨hcz10_0, hcz10_1, hcz10_2, hcz10_3, hfz10_0, hfz10_1, hfz10_2, hfz10_3⟩ := bz4 BK248))
 rotate_left
 all_goals
  replace BK248 := asd (blk_drew BK248.out)
  replace HB := asd (below_drew1 HB.out)
  refine sh 4 (eb4 BK248) (fun hHeld => ?_)
  generalize w4.drew = w6 at BK248 HB hHeld ⊢
  refine take_ (i := 0) (N := some 10) (v := ?_) (a' := ?_) (bT 4 1) rfl rfl (by kernel_rfl) (fun _ _ _ h => h) (Or.inl ⟨by rfl, ?_⟩) hHeld ?_ ?_
  rotate_left
  ·rintro w' ⟨s0, s1, s2, s3⟩
   go_simp
   with_reducible rfl
  rotate_left
  ·simp only [Act.put, sA, sB, sC, i64_w, i32_w]
   rfl
  refine one_ (i := 1) (N := some 11) (bT 4 2) rfl rfl (by kernel_rfl) (by decide) (fun K hK => ?_)
  refine gs Tryd.func103 #[] ?_
  with_reducible refine (impl_unit.calls _ _ _ _ _ A2.out).mono ?_
  rintro e w7 ⟨rfl, hb⟩
  refine ⟨_, rfl, ?_⟩
  replace BK248 := bB BK248 hb
  replace HB := bS1 HB GE248 hb
  (try clear hb)
  (try clear hb2)
  (try clear hk)
  (try clear hi)
  refine hK.out _ _ (eb4 BK248).out (fun hHeld => ?_)
  clear hK K
  refine norm_ (a' := ?_) ?_ ?_
  rotate_left
  ·show Act.put _ (some 11) _ = _
   simp only [Act.put, sA, sB, sC, i64_w, i32_w]
   rfl
  refine pure_ (i := 2) (N := some 12) (v := ?_) (a' := ?_) (bT 4 3) rfl rfl (by kernel_rfl) (fun _ _ _ h => h) (Or.inl ⟨by rfl, ?_⟩) ?_ ?_
  rotate_left
  ·intro w'
   go_simp
   with_reducible rfl
  rotate_left
  ·simp only [Act.put, sA, sB, sC, i64_w, i32_w]
   rfl
  refine pure_ (i := 3) (N := some 9) (v := ?_) (a' := ?_) (bT 4 4) rfl rfl (by kernel_rfl) (fun _ _ _ h => h) (Or.inl ⟨by rfl, ?_⟩) ?_ ?_
  rotate_left
  ·intro w'
   go_simp
   with_reducible rfl
  rotate_left
  ·simp only [Act.put, sA, sB, sC, i64_w, i32_w]
   rfl
  refine done_ (by kernel_rfl) ?_
 ·try go_wp2
  go_ret
  exact er (bbw1 HB GE248)
 ·go_upto_region 4 with (fail)
  go_cut [13] (fun v13 wc => ∃ (kq : Nat) (x13_7 : Bool), v13 = .bool x13_7 ∧ Aside0 (impl_Mat_order.j0 kq (wrap64 (a0_0 + a0_3)) x13_7 a0_0 a0_1 a0_2 a0_3 = some r) ∧ Aside0 (kq ≤ k) ∧ Aside0 (wc.heap[gb248]? = some (.cells #[.int .i64 a0_0, .int .i64 a0_1, .int .i64 a0_2, .int .i64 a0_3] 45 (0, 0))) ∧ Aside0 (Below w.heap.size w wc))
  case first =>
   have H := HC8.out
   clear HC8
   obtain ⟨t253, A13, H⟩ := ob H
   try dsimp only at H
   by_cases c14 : t253 = (-1)
   rw [if_pos c14] at H
   have c14b0 : (t253 == (-1)) = true := beq_iff_eq.mpr c14
   have c14b1 : (t253 != (-1)) = false := bne_eq_false_iff_eq.mpr c14
   clear c14
   rotate_left
   rw [if_neg c14] at H
   have c14b0 : (t253 == (-1)) = false := beq_eq_false_iff_ne.mpr c14
   have c14b1 : (t253 != (-1)) = true := bne_iff_ne.mpr c14
   rotate_left
   all_goals
    (first | rw [c14b0] | (simp only [i64_w, i32_w]; rw [c14b0]) | skip)
    have H' := Aside0.mk H
    clear H
   obtain ⟨hcz15_0, hcz15_1, hcz15_2, hcz15_3, hfz15_0, hfz15_1, hfz15_2, hfz15_3⟩ := bz4 BK248
   rotate_left
   obtain ⟨hcz17_0, hcz17_1, hcz17_2, hcz17_3, hfz17_0, hfz17_1, hfz17_2, hfz17_3⟩ := bz4 BK248
   rotate_left
   all_goals
    go_wp2_with (first | ((with_reducible refine gate_callee (f := 83) rfl ?_); refine gl 15 Tryd.func83 #[.agg #[.int .i64 a0_0, .int .i64 a0_1, .int .i64 a0_2, .int .i64 a0_3]] ?_; (with_reducible refine (impl_Mat_det.calls _ _ _ _ _ _ A13.out).mono ?_); rintro e w16 ⟨rfl, hb⟩; refine ⟨_, rfl, ?_⟩; replace BK248 := bB BK248 hb; replace HB := bS1 HB GE248 hb; (try clear hb)))
    go_meet
   ·case rel => exact ⟨_, (((wrap64 (a0_0 + a0_3)) == 0)), (by first | rfl | (simp; done) | (simp [*]; done)), H', ⟨by first | omega | exact Nat.le_refl _⟩, ⟨bkp BK248⟩, ⟨bbw1 HB GE248⟩⟩
   ·case rel => exact ⟨_, (false), (by first | rfl | (simp; done) | (simp [*]; done)), H', ⟨by first | omega | exact Nat.le_refl _⟩, ⟨bkp BK248⟩, ⟨bbw1 HB GE248⟩⟩
  case rest =>
   clear HC8
   try clear c1
   try clear p2
   try clear c3
   try clear c3b0
   try clear c3b1
   try clear c3b2
   try clear p6
   try clear c8
   try clear c9
   try clear c10
   try clear c14
   try clear c14b0
   try clear c14b1
   try clear hcz10_0
   try clear hcz10_1
   try clear hcz10_2
   try clear hcz10_3
   try clear hcz15_0
   try clear hcz15_1
   try clear hcz15_2
   try clear hcz15_3
   try clear hcz17_0
   try clear hcz17_1
   try clear hcz17_2
   try clear hcz17_3
   try clear hcz5_0
   try clear hcz5_1
   try clear hcz5_2
   try clear hcz5_3
   try clear hfz10_0
   try clear hfz10_1
   try clear hfz10_2
   try clear hfz10_3
   try clear hfz15_0
   try clear hfz15_1
   try clear hfz15_2
   try clear hfz15_3
   try clear hfz17_0
   try clear hfz17_1
   try clear hfz17_2
   try clear hfz17_3
   try clear hfz5_0
   try clear hfz5_1
   try clear hfz5_2
   try clear hfz5_3
   obtain ⟨kq, x13_7, rfl, HA, HJ7, BK248, HB⟩ := hcut
   cases kq with
   | zero => exact absurd HA.out (by simp [impl_Mat_order.j0])
   | succ kj7 =>
    have H := HA.out
    clear HA
    simp only [impl_Mat_order.j0] at H
    have HC19 := Aside0.mk H
    clear H
    go_upto_if 13 with (fail)
    go_cut [13] (fun v13 wc => ∃ (kq : Nat) (x13_18 : Bool), v13 = .bool x13_18 ∧ Aside0 (impl_Mat_order.j1 kq (wrap64 (a0_0 + a0_3)) x13_18 a0_0 a0_1 a0_2 a0_3 = some r) ∧ Aside0 (kq ≤ kj7) ∧ Aside0 (wc.heap[gb248]? = some (.cells #[.int .i64 a0_0, .int .i64 a0_1, .int .i64 a0_2, .int .i64 a0_3] 45 (0, 0))) ∧ Aside0 (Below w.heap.size w wc))
    case first =>
     have H := HC19.out
     clear HC19
     by_cases c20 : x13_7 = true
     ·subst c20
      replace H := ifT H
      have H' := Aside0.mk H
      clear H
      go_wp2
      go_meet
      case rel => exact ⟨_, (true), (by first | rfl | (simp; done) | (simp [*]; done)), H', ⟨by have := HJ7.out; first | omega | exact Nat.le_refl _⟩, ⟨bkp BK248⟩, ⟨bbw1 HB GE248⟩⟩
     ·replace c20 := Bool.eq_false_iff.mpr c20
      subst c20
      replace H := ifF H
      have H' := Aside0.mk H
      clear H
      obtain ⟨hcz21_0, hcz21_1, hcz21_2, hcz21_3, hfz21_0, hfz21_1, hfz21_2, hfz21_3⟩ := bz4 BK248
      go_wp2
      go_meet
      case rel => exact ⟨_, ((a0_0 == (-1) && (a0_1 == 0 && (a0_2 == 0 && (a0_3 == (-1)))))), (by first | rfl | (simp; done) | (simp [*]; done)), H', ⟨by have := HJ7.out; first | omega | exact Nat.le_refl _⟩, ⟨bkp BK248⟩, ⟨bbw1 HB GE248⟩⟩
    case rest =>
     clear HC19
     try clear c1
     try clear c2
     try clear p2
     try clear c3
     try clear c3b0
     try clear c3b1
     try clear c3b2
     try clear p6
     try clear c8
     try clear c9
     try clear c10
     try clear c14
     try clear c14b0
     try clear c14b1
     try clear c20
     try clear hcz10_0
     try clear hcz10_1
     try clear hcz10_2
     try clear hcz10_3
     try clear hcz15_0
     try clear hcz15_1
     try clear hcz15_2
     try clear hcz15_3
     try clear hcz17_0
     try clear hcz17_1
     try clear hcz17_2
     try clear hcz17_3
     try clear hcz21_0
     try clear hcz21_1
     try clear hcz21_2
     try clear hcz21_3
     try clear hcz5_0
     try clear hcz5_1
     try clear hcz5_2
     try clear hcz5_3
     try clear hfz10_0
     try clear hfz10_1
     try clear hfz10_2
     try clear hfz10_3
     try clear hfz15_0
     try clear hfz15_1
     try clear hfz15_2
     try clear hfz15_3
     try clear hfz17_0
     try clear hfz17_1
     try clear hfz17_2
     try clear hfz17_3
     try clear hfz21_0
     try clear hfz21_1
     try clear hfz21_2
     try clear hfz21_3
     try clear hfz5_0
     try clear hfz5_1
     try clear hfz5_2
     try clear hfz5_3
     try clear p2
     try clear p6
     obtain ⟨kq, x13_18, rfl, HA, HJ18, BK248, HB⟩ := hcut
     cases kq with
     | zero => exact absurd HA.out (by simp [impl_Mat_order.j1])
     | succ kj18 =>
      have H := HA.out
      clear HA
      simp only [impl_Mat_order.j1] at H
      by_cases c22 : x13_18 = true
      ·subst c22
       replace H := ifT H
       obtain rfl := Option.some.inj H
       go_wp2
       go_ret
       exact er (bbw1 HB GE248)
      ·replace c22 := Bool.eq_false_iff.mpr c22
       subst c22
       replace H := ifF H
       have HC23 := Aside0.mk H
       clear H
       go_upto_region 7 with (fail)
       go_cut [24] (fun v24 wc => ∃ (kq : Nat) (x24_22 : Bool), v24 = .bool x24_22 ∧ Aside0 (impl_Mat_order.j2 kq (wrap64 (a0_0 + a0_3)) x24_22 a0_0 a0_1 a0_2 a0_3 = some r) ∧ Aside0 (kq ≤ kj18) ∧ Aside0 (wc.heap[gb248]? = some (.cells #[.int .i64 a0_0, .int .i64 a0_1, .int .i64 a0_2, .int .i64 a0_3] 45 (0, 0))) ∧ Aside0 (Below w.heap.size w wc))
       case first =>
        have H := HC23.out
        clear HC23
        obtain ⟨t254, A24, H⟩ := ob H
        try dsimp only at H
        by_cases c25 : t254 = 1
        rw [if_pos c25] at H
        have c25b0 : (t254 == 1) = true := beq_iff_eq.mpr c25
        have c25b1 : (t254 != 1) = false := bne_eq_false_iff_eq.mpr c25
        clear c25
        rotate_left
        rw [if_neg c25] at H
        have c25b0 : (t254 == 1) = false := beq_eq_false_iff_ne.mpr c25
        have c25b1 : (t254 != 1) = true := bne_iff_ne.mpr c25
        rotate_left
        all_goals
         (first | rw [c25b0] | (simp only [i64_w, i32_w]; rw [c25b0]) | skip)
         have H' := Aside0.mk H
         clear H
        obtain ⟨hcz26_0, hcz26_1, hcz26_2, hcz26_3, hfz26_0, hfz26_1, hfz26_2, hfz26_3⟩ := bz4 BK248
        rotate_left
        obtain ⟨hcz28_0, hcz28_1, hcz28_2, hcz28_3, hfz28_0, hfz28_1, hfz28_2, hfz28_3⟩ := bz4 BK248
        rotate_left
        all_goals
         go_wp2_with (first | ((with_reducible refine gate_callee (f := 83) rfl ?_); refine gl 26 Tryd.func83 #[.agg #[.int .i64 a0_0, .int .i64 a0_1, .int .i64 a0_2, .int .i64 a0_3]] ?_; (with_reducible refine (impl_Mat_det.calls _ _ _ _ _ _ A24.out).mono ?_); rintro e w27 ⟨rfl, hb⟩; refine ⟨_, rfl, ?_⟩; replace BK248 := bB BK248 hb; replace HB := bS1 HB GE248 hb; (try clear hb)))
         go_meet
        ·case rel => exact ⟨_, (((wrap64 (a0_0 + a0_3)) == (-1))), (by first | rfl | (simp; done) | (simp [*]; done)), H', ⟨by have := HJ7.out; have := HJ18.out; first | omega | exact Nat.le_refl _⟩, ⟨bkp BK248⟩, ⟨bbw1 HB GE248⟩⟩
        ·case rel => exact ⟨_, (false), (by first | rfl | (simp; done) | (simp [*]; done)), H', ⟨by have := HJ7.out; have := HJ18.out; first | omega | exact Nat.le_refl _⟩, ⟨bkp BK248⟩, ⟨bbw1 HB GE248⟩⟩
       case rest =>
        clear HC23
        try clear c1
        try clear c2
        try clear p2
        try clear c3
        try clear c3b0
        try clear c3b1
        try clear c3b2
        try clear p6
        try clear c8
        try clear c9
        try clear c10
        try clear c14
        try clear c14b0
        try clear c14b1
        try clear c20
        try clear c22
        try clear c25
        try clear c25b0
        try clear c25b1
        try clear hcz10_0
        try clear hcz10_1
        try clear hcz10_2
        try clear hcz10_3
        try clear hcz15_0
        try clear hcz15_1
        try clear hcz15_2
        try clear hcz15_3
        try clear hcz17_0
        try clear hcz17_1
        try clear hcz17_2
        try clear hcz17_3
        try clear hcz21_0
        try clear hcz21_1
        try clear hcz21_2
        try clear hcz21_3
        try clear hcz26_0
        try clear hcz26_1
        try clear hcz26_2
        try clear hcz26_3
        try clear hcz28_0
        try clear hcz28_1
        try clear hcz28_2
        try clear hcz28_3
        try clear hcz5_0
        try clear hcz5_1
        try clear hcz5_2
        try clear hcz5_3
        try clear hfz10_0
        try clear hfz10_1
        try clear hfz10_2
        try clear hfz10_3
        try clear hfz15_0
        try clear hfz15_1
        try clear hfz15_2
        try clear hfz15_3
        try clear hfz17_0
        try clear hfz17_1
        try clear hfz17_2
        try clear hfz17_3
        try clear hfz21_0
        try clear hfz21_1
        try clear hfz21_2
        try clear hfz21_3
        try clear hfz26_0
        try clear hfz26_1
        try clear hfz26_2
        try clear hfz26_3
        try clear hfz28_0
        try clear hfz28_1
        try clear hfz28_2
        try clear hfz28_3
        try clear hfz5_0
        try clear hfz5_1
        try clear hfz5_2
        try clear hfz5_3
        try clear p2
        try clear p6
        obtain ⟨kq, x24_22, rfl, HA, HJ22, BK248, HB⟩ := hcut
        cases kq with
        | zero => exact absurd HA.out (by simp [impl_Mat_order.j2])
        | succ kj22 =>
         have H := HA.out
         clear HA
         simp only [impl_Mat_order.j2] at H
         by_cases c30 : x24_22 = true
         ·subst c30
          replace H := ifT H
          obtain rfl := Option.some.inj H
          go_wp2
          go_ret
          exact er (bbw1 HB GE248)
         ·replace c30 := Bool.eq_false_iff.mpr c30
          subst c30
          replace H := ifF H
          have HC31 := Aside0.mk H
          clear H
          go_upto_region 9 with (fail)
          go_cut [32] (fun v32 wc => ∃ (kq : Nat) (x32_30 : Bool), v32 = .bool x32_30 ∧ Aside0 (impl_Mat_order.j3 kq (wrap64 (a0_0 + a0_3)) x32_30 a0_0 a0_1 a0_2 a0_3 = some r) ∧ Aside0 (kq ≤ kj22) ∧ Aside0 (wc.heap[gb248]? = some (.cells #[.int .i64 a0_0, .int .i64 a0_1, .int .i64 a0_2, .int .i64 a0_3] 45 (0, 0))) ∧ Aside0 (Below w.heap.size w wc))
          case first =>
           have H := HC31.out
           clear HC31
           obtain ⟨t255, A32, H⟩ := ob H
           try dsimp only at H
           by_cases c33 : t255 = 1
           rw [if_pos c33] at H
           have c33b0 : (t255 == 1) = true := beq_iff_eq.mpr c33
           have c33b1 : (t255 != 1) = false := bne_eq_false_iff_eq.mpr c33
           clear c33
           rotate_left
           rw [if_neg c33] at H
           have c33b0 : (t255 == 1) = false := beq_eq_false_iff_ne.mpr c33
           have c33b1 : (t255 != 1) = true := bne_iff_ne.mpr c33
           rotate_left
           all_goals
            (first | rw [c33b0] | (simp only [i64_w, i32_w]; rw [c33b0]) | skip)
            have H' := Aside0.mk H
            clear H
           obtain ⟨hcz34_0, hcz34_1, hcz34_2, hcz34_3, hfz34_0, hfz34_1, hfz34_2, hfz34_3⟩ := bz4 BK248
           rotate_left
           obtain ⟨hcz36_0, hcz36_1, hcz36_2, hcz36_3, hfz36_0, hfz36_1, hfz36_2, hfz36_3⟩ := bz4 BK248
           rotate_left
           all_goals
            go_wp2_with (first | ((with_reducible refine gate_callee (f := 83) rfl ?_); refine gl 34 Tryd.func83 #[.agg #[.int .i64 a0_0, .int .i64 a0_1, .int .i64 a0_2, .int .i64 a0_3]] ?_; (with_reducible refine (impl_Mat_det.calls _ _ _ _ _ _ A32.out).mono ?_); rintro e w35 ⟨rfl, hb⟩; refine ⟨_, rfl, ?_⟩; replace BK248 := bB BK248 hb; replace HB := bS1 HB GE248 hb; (try clear hb)))
            go_meet
           ·case rel => exact ⟨_, (((wrap64 (a0_0 + a0_3)) == 0)), (by first | rfl | (simp; done) | (simp [*]; done)), H', ⟨by have := HJ7.out; have := HJ18.out; have := HJ22.out; first | omega | exact Nat.le_refl _⟩, ⟨bkp BK248⟩, ⟨bbw1 HB GE248⟩⟩
           ·case rel => exact ⟨_, (false), (by first | rfl | (simp; done) | (simp [*]; done)), H', ⟨by have := HJ7.out; have := HJ18.out; have := HJ22.out; first | omega | exact Nat.le_refl _⟩, ⟨bkp BK248⟩, ⟨bbw1 HB GE248⟩⟩
          case rest =>
           clear HC31
           try clear c1
           try clear c2
           try clear p2
           try clear c3
           try clear c3b0
           try clear c3b1
           try clear c3b2
           try clear p6
           try clear c8
           try clear c9
           try clear c10
           try clear c14
           try clear c14b0
           try clear c14b1
           try clear c20
           try clear c22
           try clear c25
           try clear c25b0
           try clear c25b1
           try clear c30
           try clear c33
           try clear c33b0
           try clear c33b1
           try clear hcz10_0
           try clear hcz10_1
           try clear hcz10_2
           try clear hcz10_3
           try clear hcz15_0
           try clear hcz15_1
           try clear hcz15_2
           try clear hcz15_3
           try clear hcz17_0
           try clear hcz17_1
           try clear hcz17_2
           try clear hcz17_3
           try clear hcz21_0
           try clear hcz21_1
           try clear hcz21_2
           try clear hcz21_3
           try clear hcz26_0
           try clear hcz26_1
           try clear hcz26_2
           try clear hcz26_3
           try clear hcz28_0
           try clear hcz28_1
           try clear hcz28_2
           try clear hcz28_3
           try clear hcz34_0
           try clear hcz34_1
           try clear hcz34_2
           try clear hcz34_3
           try clear hcz36_0
           try clear hcz36_1
           try clear hcz36_2
           try clear hcz36_3
           try clear hcz5_0
           try clear hcz5_1
           try clear hcz5_2
           try clear hcz5_3
           try clear hfz10_0
           try clear hfz10_1
           try clear hfz10_2
           try clear hfz10_3
           try clear hfz15_0
           try clear hfz15_1
           try clear hfz15_2
           try clear hfz15_3
           try clear hfz17_0
           try clear hfz17_1
           try clear hfz17_2
           try clear hfz17_3
           try clear hfz21_0
           try clear hfz21_1
           try clear hfz21_2
           try clear hfz21_3
           try clear hfz26_0
           try clear hfz26_1
           try clear hfz26_2
           try clear hfz26_3
           try clear hfz28_0
           try clear hfz28_1
           try clear hfz28_2
           try clear hfz28_3
           try clear hfz34_0
           try clear hfz34_1
           try clear hfz34_2
           try clear hfz34_3
           try clear hfz36_0
           try clear hfz36_1
           try clear hfz36_2
           try clear hfz36_3
           try clear hfz5_0
           try clear hfz5_1
           try clear hfz5_2
           try clear hfz5_3
           try clear p2
           try clear p6
           obtain ⟨kq, x32_30, rfl, HA, HJ30, BK248, HB⟩ := hcut
           cases kq with
           | zero => exact absurd HA.out (by simp [impl_Mat_order.j3])
           | succ kj30 =>
            have H := HA.out
            clear HA
            simp only [impl_Mat_order.j3] at H
            by_cases c38 : x32_30 = true
            subst c38
            replace H := ifT H
            obtain rfl := Option.some.inj H
            rotate_left
            replace c38 := Bool.eq_false_iff.mpr c38
            subst c38
            replace H := ifF H
            obtain ⟨t256, A39, H⟩ := ob H
            try dsimp only at H
            by_cases c40 : t256 = 1
            rw [if_pos c40] at H
            have c40b0 : (t256 == 1) = true := beq_iff_eq.mpr c40
            have c40b1 : (t256 != 1) = false := bne_eq_false_iff_eq.mpr c40
            clear c40
            by_cases c41 : (wrap64 (a0_0 + a0_3)) = 1
            rw [if_pos c41] at H
            have c41b0 : ((wrap64 (a0_0 + a0_3)) == 1) = true := beq_iff_eq.mpr c41
            have c41b1 : ((wrap64 (a0_0 + a0_3)) != 1) = false := bne_eq_false_iff_eq.mpr c41
            clear c41
            obtain rfl := Option.some.inj H
            rotate_left
            rw [if_neg c41] at H
            have c41b0 : ((wrap64 (a0_0 + a0_3)) == 1) = false := beq_eq_false_iff_ne.mpr c41
            have c41b1 : ((wrap64 (a0_0 + a0_3)) != 1) = true := bne_iff_ne.mpr c41
            obtain rfl := Option.some.inj H
            rotate_left
            rw [if_neg c40] at H
            have c40b0 : (t256 == 1) = false := beq_eq_false_iff_ne.mpr c40
            have c40b1 : (t256 != 1) = true := bne_iff_ne.mpr c40
            obtain rfl := Option.some.inj H
            rotate_left
            ·go_wp2
             go_ret
             exact er (bbw1 HB GE248)
            rotate_left 3
            all_goals
             obtain ⟨hcz42_0, hcz42_1, hcz42_2, hcz42_3, hfz42_0, hfz42_1, hfz42_2, hfz42_3⟩ := bz4 BK248
             go_wp2_with (first | ((with_reducible refine gate_callee (f := 83) rfl ?_); refine gl 42 Tryd.func83 #[.agg #[.int .i64 a0_0, .int .i64 a0_1, .int .i64 a0_2, .int .i64 a0_3]] ?_; (with_reducible refine (impl_Mat_det.calls _ _ _ _ _ _ A39.out).mono ?_); rintro e w43 ⟨rfl, hb⟩; refine ⟨_, rfl, ?_⟩; replace BK248 := bB BK248 hb; replace HB := bS1 HB GE248 hb; (try clear hb)))
             go_ret
             exact er (bbw1 HB GE248)
/-! ### impl_Mat_isRotation: function 84 -/
def impl_Mat_isRotation.f (k : Nat) (a0_0 : Int) (a0_1 : Int) (a0_2 : Int) (a0_3 : Int) : Option (Bool) := (impl_Mat_det.f a0_0 a0_1 a0_2 a0_3).bind fun t258 => (if t258 = 1 then ((impl_Mat_order.f k a0_0 a0_1 a0_2 a0_3).bind fun t259 => (some (decide (t259 > 0)))) else (some false))
set_option maxHeartbeats 8000000 in
set_option maxRecDepth 100000 in
theorem impl_Mat_isRotation.calls (k : Nat) (a0_0 : Int) (a0_1 : Int) (a0_2 : Int) (a0_3 : Int) (r : Bool) (w : World) (h : impl_Mat_isRotation.f k a0_0 a0_1 a0_2 a0_3 = some r) :
  Calls Tryd.prog 84 #[.agg #[.int .i64 a0_0, .int .i64 a0_1, .int .i64 a0_2, .int .i64 a0_3]] w fun e w' => e = .returned (.bool r) ∧ Below w.heap.size w w' := by
 have hu45 := Tryd.underlying45
 have HB := asd (Below.refl w.heap.size w)
 have H : ((impl_Mat_det.f a0_0 a0_1 a0_2 a0_3).bind fun t258 => (if t258 = 1 then ((impl_Mat_order.f k a0_0 a0_1 a0_2 a0_3).bind fun t259 => (some (decide (t259 > 0)))) else (some false))) = some r := h
 clear h
 obtain ⟨t258, A2, H⟩ := ob H
 try dsimp only at H
 by_cases c3 : t258 = 1
 ·rw [if_pos c3] at H
  have c3b0 : (t258 == 1) = true := beq_iff_eq.mpr c3
  have c3b1 : (t258 != 1) = false := bne_eq_false_iff_eq.mpr c3
  clear c3
  obtain ⟨t259, A4, H⟩ := ob H
  try dsimp only at H
  obtain rfl := Option.some.inj H
  go_enter Tryd.func84, Tryd.ntmps84
  go_wp2_with (first | ((with_reducible refine gd 1 rfl ?_); refine bx #[.int .i64 a0_0, .int .i64 a0_1, .int .i64 a0_2, .int .i64 a0_3] 45 ?_; intro gb257 hg w5 BK257 hb; have GE257 := ngw0 hg HB; replace HB := bS0 HB hb; clear hb hg; obtain ⟨hcz6_0, hcz6_1, hcz6_2, hcz6_3, hfz6_0, hfz6_1, hfz6_2, hfz6_3⟩ := bz4 BK257) | ((with_reducible refine gate_callee (f := 83) rfl ?_); refine gl 4 Tryd.func83 #[.agg #[.int .i64 a0_0, .int .i64 a0_1, .int .i64 a0_2, .int .i64 a0_3]] ?_; (with_reducible refine (impl_Mat_det.calls _ _ _ _ _ _ A2.out).mono ?_); rintro e w7 ⟨rfl, hb⟩; refine ⟨_, rfl, ?_⟩; replace BK257 := bB BK257 hb; replace HB := bS1 HB GE257 hb; (try clear hb); obtain ⟨hcz8_0, hcz8_1, hcz8_2, hcz8_3, hfz8_0, hfz8_1, hfz8_2, hfz8_3⟩ := bz4 BK257) | (go_at_call 96; (with_reducible refine (impl_Mat_order.calls _ _ _ _ _ _ _ A4.out).mono ?_); rintro e w9 ⟨rfl, hb⟩; replace BK257 := bB BK257 hb; replace HB := bS1 HB GE257 hb; (try clear hb)))
  go_ret
  exact er (bbw1 HB GE257)
 ·rw [if_neg c3] at H
  have c3b0 : (t258 == 1) = false := beq_eq_false_iff_ne.mpr c3
  have c3b1 : (t258 != 1) = true := bne_iff_ne.mpr c3
  obtain rfl := Option.some.inj H
  go_enter Tryd.func84, Tryd.ntmps84
  go_wp2_with (first | ((with_reducible refine gd 1 rfl ?_); refine bx #[.int .i64 a0_0, .int .i64 a0_1, .int .i64 a0_2, .int .i64 a0_3] 45 ?_; intro gb257 hg w10 BK257 hb; have GE257 := ngw0 hg HB; replace HB := bS0 HB hb; clear hb hg; obtain ⟨hcz11_0, hcz11_1, hcz11_2, hcz11_3, hfz11_0, hfz11_1, hfz11_2, hfz11_3⟩ := bz4 BK257) | ((with_reducible refine gate_callee (f := 83) rfl ?_); refine gl 4 Tryd.func83 #[.agg #[.int .i64 a0_0, .int .i64 a0_1, .int .i64 a0_2, .int .i64 a0_3]] ?_; (with_reducible refine (impl_Mat_det.calls _ _ _ _ _ _ A2.out).mono ?_); rintro e w12 ⟨rfl, hb⟩; refine ⟨_, rfl, ?_⟩; replace BK257 := bB BK257 hb; replace HB := bS1 HB GE257 hb; (try clear hb)))
  go_ret
  exact er (bbw1 HB GE257)
/-! ### impl_Mat_isReflection: function 85 -/
def impl_Mat_isReflection.f (k : Nat) (a0_0 : Int) (a0_1 : Int) (a0_2 : Int) (a0_3 : Int) : Option (Bool) := (impl_Mat_det.f a0_0 a0_1 a0_2 a0_3).bind fun t261 => (if t261 = (-1) then ((impl_Mat_order.f k a0_0 a0_1 a0_2 a0_3).bind fun t262 => (some (t262 == 2))) else (some false))
set_option maxHeartbeats 8000000 in
set_option maxRecDepth 100000 in
theorem impl_Mat_isReflection.calls (k : Nat) (a0_0 : Int) (a0_1 : Int) (a0_2 : Int) (a0_3 : Int) (r : Bool) (w : World) (h : impl_Mat_isReflection.f k a0_0 a0_1 a0_2 a0_3 = some r) :
  Calls Tryd.prog 85 #[.agg #[.int .i64 a0_0, .int .i64 a0_1, .int .i64 a0_2, .int .i64 a0_3]] w fun e w' => e = .returned (.bool r) ∧ Below w.heap.size w w' := by
 have hu45 := Tryd.underlying45
 have HB := asd (Below.refl w.heap.size w)
 have H : ((impl_Mat_det.f a0_0 a0_1 a0_2 a0_3).bind fun t261 => (if t261 = (-1) then ((impl_Mat_order.f k a0_0 a0_1 a0_2 a0_3).bind fun t262 => (some (t262 == 2))) else (some false))) = some r := h
 clear h
 obtain ⟨t261, A2, H⟩ := ob H
 try dsimp only at H
 by_cases c3 : t261 = (-1)
 ·rw [if_pos c3] at H
  have c3b0 : (t261 == (-1)) = true := beq_iff_eq.mpr c3
  have c3b1 : (t261 != (-1)) = false := bne_eq_false_iff_eq.mpr c3
  clear c3
  obtain ⟨t262, A4, H⟩ := ob H
  try dsimp only at H
  obtain rfl := Option.some.inj H
  go_enter Tryd.func85, Tryd.ntmps85
  go_wp2_with (first | ((with_reducible refine gd 1 rfl ?_); refine bx #[.int .i64 a0_0, .int .i64 a0_1, .int .i64 a0_2, .int .i64 a0_3] 45 ?_; intro gb260 hg w5 BK260 hb; have GE260 := ngw0 hg HB; replace HB := bS0 HB hb; clear hb hg; obtain ⟨hcz6_0, hcz6_1, hcz6_2, hcz6_3, hfz6_0, hfz6_1, hfz6_2, hfz6_3⟩ := bz4 BK260) | ((with_reducible refine gate_callee (f := 83) rfl ?_); refine gl 4 Tryd.func83 #[.agg #[.int .i64 a0_0, .int .i64 a0_1, .int .i64 a0_2, .int .i64 a0_3]] ?_; (with_reducible refine (impl_Mat_det.calls _ _ _ _ _ _ A2.out).mono ?_); rintro e w7 ⟨rfl, hb⟩; refine ⟨_, rfl, ?_⟩; replace BK260 := bB BK260 hb; replace HB := bS1 HB GE260 hb; (try clear hb); obtain ⟨hcz8_0, hcz8_1, hcz8_2, hcz8_3, hfz8_0, hfz8_1, hfz8_2, hfz8_3⟩ := bz4 BK260) | (go_at_call 96; (with_reducible refine (impl_Mat_order.calls _ _ _ _ _ _ _ A4.out).mono ?_); rintro e w9 ⟨rfl, hb⟩; replace BK260 := bB BK260 hb; replace HB := bS1 HB GE260 hb; (try clear hb)))
  go_ret
  exact er (bbw1 HB GE260)
 ·rw [if_neg c3] at H
  have c3b0 : (t261 == (-1)) = false := beq_eq_false_iff_ne.mpr c3
  have c3b1 : (t261 != (-1)) = true := bne_iff_ne.mpr c3
  obtain rfl := Option.some.inj H
  go_enter Tryd.func85, Tryd.ntmps85
  go_wp2_with (first | ((with_reducible refine gd 1 rfl ?_); refine bx #[.int .i64 a0_0, .int .i64 a0_1, .int .i64 a0_2, .int .i64 a0_3] 45 ?_; intro gb260 hg w10 BK260 hb; have GE260 := ngw0 hg HB; replace HB := bS0 HB hb; clear hb hg; obtain ⟨hcz11_0, hcz11_1, hcz11_2, hcz11_3, hfz11_0, hfz11_1, hfz11_2, hfz11_3⟩ := bz4 BK260) | ((with_reducible refine gate_callee (f := 83) rfl ?_); refine gl 4 Tryd.func83 #[.agg #[.int .i64 a0_0, .int .i64 a0_1, .int .i64 a0_2, .int .i64 a0_3]] ?_; (with_reducible refine (impl_Mat_det.calls _ _ _ _ _ _ A2.out).mono ?_); rintro e w12 ⟨rfl, hb⟩; refine ⟨_, rfl, ?_⟩; replace BK260 := bB BK260 hb; replace HB := bS1 HB GE260 hb; (try clear hb)))
  go_ret
  exact er (bbw1 HB GE260)
/-! ### impl_Mat_isTurn: function 65 -/
def impl_Mat_isTurn.f (k : Nat) (a0_0 : Int) (a0_1 : Int) (a0_2 : Int) (a0_3 : Int) : Option (Bool) := (impl_Mat_isRotation.f k a0_0 a0_1 a0_2 a0_3).bind fun t264 => (if t264 = true then (some true) else ((impl_Mat_isReflection.f k a0_0 a0_1 a0_2 a0_3).bind fun t265 => (some t265)))
set_option maxHeartbeats 8000000 in
set_option maxRecDepth 100000 in
theorem impl_Mat_isTurn.calls (k : Nat) (a0_0 : Int) (a0_1 : Int) (a0_2 : Int) (a0_3 : Int) (r : Bool) (w : World) (h : impl_Mat_isTurn.f k a0_0 a0_1 a0_2 a0_3 = some r) :
  Calls Tryd.prog 65 #[.agg #[.int .i64 a0_0, .int .i64 a0_1, .int .i64 a0_2, .int .i64 a0_3]] w fun e w' => e = .returned (.bool r) ∧ Below w.heap.size w w' := by
 have hu45 := Tryd.underlying45
 have HB := asd (Below.refl w.heap.size w)
 have H : ((impl_Mat_isRotation.f k a0_0 a0_1 a0_2 a0_3).bind fun t264 => (if t264 = true then (some true) else ((impl_Mat_isReflection.f k a0_0 a0_1 a0_2 a0_3).bind fun t265 => (some t265)))) = some r := h
 clear h
 obtain ⟨t264, A2, H⟩ := ob H
 try dsimp only at H
 by_cases c3 : t264 = true
 ·subst c3
  replace H := ifT H
  obtain rfl := Option.some.inj H
  go_enter Tryd.func65, Tryd.ntmps65
  go_wp2_with (first | ((with_reducible refine gd 1 rfl ?_); refine bx #[.int .i64 a0_0, .int .i64 a0_1, .int .i64 a0_2, .int .i64 a0_3] 45 ?_; intro gb263 hg w4 BK263 hb; have GE263 := ngw0 hg HB; replace HB := bS0 HB hb; clear hb hg; obtain ⟨hcz5_0, hcz5_1, hcz5_2, hcz5_3, hfz5_0, hfz5_1, hfz5_2, hfz5_3⟩ := bz4 BK263) | ((with_reducible refine gate_callee (f := 84) rfl ?_); refine gl 4 Tryd.func84 #[.agg #[.int .i64 a0_0, .int .i64 a0_1, .int .i64 a0_2, .int .i64 a0_3]] ?_; (with_reducible refine (impl_Mat_isRotation.calls _ _ _ _ _ _ _ A2.out).mono ?_); rintro e w6 ⟨rfl, hb⟩; refine ⟨_, rfl, ?_⟩; replace BK263 := bB BK263 hb; replace HB := bS1 HB GE263 hb; (try clear hb)))
  go_ret
  exact er (bbw1 HB GE263)
 ·replace c3 := Bool.eq_false_iff.mpr c3
  subst c3
  replace H := ifF H
  obtain ⟨t265, A7, H⟩ := ob H
  try dsimp only at H
  obtain rfl := Option.some.inj H
  go_enter Tryd.func65, Tryd.ntmps65
  go_wp2_with (first | ((with_reducible refine gd 1 rfl ?_); refine bx #[.int .i64 a0_0, .int .i64 a0_1, .int .i64 a0_2, .int .i64 a0_3] 45 ?_; intro gb263 hg w8 BK263 hb; have GE263 := ngw0 hg HB; replace HB := bS0 HB hb; clear hb hg; obtain ⟨hcz9_0, hcz9_1, hcz9_2, hcz9_3, hfz9_0, hfz9_1, hfz9_2, hfz9_3⟩ := bz4 BK263) | ((with_reducible refine gate_callee (f := 84) rfl ?_); refine gl 4 Tryd.func84 #[.agg #[.int .i64 a0_0, .int .i64 a0_1, .int .i64 a0_2, .int .i64 a0_3]] ?_; (with_reducible refine (impl_Mat_isRotation.calls _ _ _ _ _ _ _ A2.out).mono ?_); rintro e w10 ⟨rfl, hb⟩; refine ⟨_, rfl, ?_⟩; replace BK263 := bB BK263 hb; replace HB := bS1 HB GE263 hb; (try clear hb); obtain ⟨hcz11_0, hcz11_1, hcz11_2, hcz11_3, hfz11_0, hfz11_1, hfz11_2, hfz11_3⟩ := bz4 BK263) | (go_at_call 85; (with_reducible refine (impl_Mat_isReflection.calls _ _ _ _ _ _ _ A7.out).mono ?_); rintro e w12 ⟨rfl, hb⟩; replace BK263 := bB BK263 hb; replace HB := bS1 HB GE263 hb; (try clear hb)))
  go_ret
  exact er (bbw1 HB GE263)
/-! ### impl_IsVec: function 66 -/
def impl_IsVec.f (a0_0 : Int) (a0_1 : Int) : Option (Bool) := (impl_isCoordinate.f a0_0).bind fun t267 => (if t267 = true then ((impl_isCoordinate.f a0_1).bind fun t268 => (some t268)) else (some false))
set_option maxHeartbeats 8000000 in
set_option maxRecDepth 100000 in
theorem impl_IsVec.calls (a0_0 : Int) (a0_1 : Int) (r : Bool) (w : World) (h : impl_IsVec.f a0_0 a0_1 = some r) :
  Calls Tryd.prog 66 #[.agg #[.int .i64 a0_0, .int .i64 a0_1]] w fun e w' => e = .returned (.bool r) ∧ Below w.heap.size w w' := by
 have hu46 := Tryd.underlying46
 have HB := asd (Below.refl w.heap.size w)
 have H : ((impl_isCoordinate.f a0_0).bind fun t267 => (if t267 = true then ((impl_isCoordinate.f a0_1).bind fun t268 => (some t268)) else (some false))) = some r := h
 clear h
 obtain ⟨t267, A2, H⟩ := ob H
 try dsimp only at H
 by_cases c3 : t267 = true
 subst c3
 replace H := ifT H
 obtain ⟨t268, A4, H⟩ := ob H
 try dsimp only at H
 obtain rfl := Option.some.inj H
 rotate_left
 replace c3 := Bool.eq_false_iff.mpr c3
 subst c3
 replace H := ifF H
 obtain rfl := Option.some.inj H
 rotate_left
 all_goals
  go_enter Tryd.func66, Tryd.ntmps66
  go_wp2_with (first | ((with_reducible refine gd 1 rfl ?_); refine bx #[.int .i64 a0_0, .int .i64 a0_1] 46 ?_; intro gb266 hg w5 BK266 hb; have GE266 := ngw0 hg HB; replace HB := bS0 HB hb; clear hb hg; obtain ⟨hcz6_0, hcz6_1, hfz6_0, hfz6_1⟩ := bz2 BK266) | ((with_reducible refine gate_callee (f := 86) rfl ?_); refine gl 5 Tryd.func86 #[.int .i64 a0_0] ?_; (with_reducible refine (impl_isCoordinate.calls _ _ _ A2.out).mono ?_); rintro e w' ⟨rfl, ⟨nd, rfl⟩⟩; refine ⟨_, rfl, ?_⟩) | (go_at_call 86; (with_reducible refine (impl_isCoordinate.calls _ _ _ A4.out).mono ?_); rintro e w' ⟨rfl, ⟨nd, rfl⟩⟩))
  go_ret
  exact er (bbw1 HB GE266)
/-! ### impl_IsMotion: function 37 -/
def impl_IsMotion.f (k : Nat) (a0_0 : Int) (a0_1 : Int) (a0_2 : Int) (a0_3 : Int) (a0_4 : Int) (a0_5 : Int) : Option (Bool) := (impl_IsMat.f a0_0 a0_1 a0_2 a0_3).bind fun t270 => (if t270 = true then ((impl_Mat_isTurn.f k a0_0 a0_1 a0_2 a0_3).bind fun t271 => (if t271 = true then ((impl_IsVec.f a0_4 a0_5).bind fun t272 => (some t272)) else (some false))) else (some false))
set_option maxHeartbeats 8000000 in
set_option maxRecDepth 100000 in
theorem impl_IsMotion.calls (k : Nat) (a0_0 : Int) (a0_1 : Int) (a0_2 : Int) (a0_3 : Int) (a0_4 : Int) (a0_5 : Int) (r : Bool) (w : World) (h : impl_IsMotion.f k a0_0 a0_1 a0_2 a0_3 a0_4 a0_5 = some r) :
  Calls Tryd.prog 37 #[.agg #[.int .i64 a0_0, .int .i64 a0_1, .int .i64 a0_2, .int .i64 a0_3, .int .i64 a0_4, .int .i64 a0_5]] w fun e w' => e = .returned (.bool r) ∧ Below w.heap.size w w' := by
 have hu48 := Tryd.underlying48
 have hu45 := Tryd.underlying45
 have hu46 := Tryd.underlying46
 have HB := asd (Below.refl w.heap.size w)
 have H : ((impl_IsMat.f a0_0 a0_1 a0_2 a0_3).bind fun t270 => (if t270 = true then ((impl_Mat_isTurn.f k a0_0 a0_1 a0_2 a0_3).bind fun t271 => (if t271 = true then ((impl_IsVec.f a0_4 a0_5).bind fun t272 => (some t272)) else (some false))) else (some false))) = some r := h
 clear h
 obtain ⟨t270, A2, H⟩ := ob H
 try dsimp only at H
 by_cases c3 : t270 = true
 ·subst c3
  replace H := ifT H
  obtain ⟨t271, A4, H⟩ := ob H
  try dsimp only at H
  by_cases c5 : t271 = true
  ·subst c5
   replace H := ifT H
   obtain ⟨t272, A6, H⟩ := ob H
   try dsimp only at H
   obtain rfl := Option.some.inj H
   go_enter Tryd.func37, Tryd.ntmps37
   go_wp2_with (first | ((with_reducible refine gd 1 rfl ?_); refine bx #[.int .i64 a0_0, .int .i64 a0_1, .int .i64 a0_2, .int .i64 a0_3, .int .i64 a0_4, .int .i64 a0_5] 48 ?_; intro gb269 hg w7 BK269 hb; have GE269 := ngw0 hg HB; replace HB := bS0 HB hb; clear hb hg; obtain ⟨hcz8_0, hcz8_1, hcz8_2, hcz8_3, hcz8_4, hcz8_5, hfz8_0, hfz8_1, hfz8_2, hfz8_3, hfz8_4, hfz8_5⟩ := bz6 BK269) | ((with_reducible refine gate_callee (f := 64) rfl ?_); refine gl 5 Tryd.func64 #[.agg #[.int .i64 a0_0, .int .i64 a0_1, .int .i64 a0_2, .int .i64 a0_3]] ?_; (with_reducible refine (impl_IsMat.calls _ _ _ _ _ _ A2.out).mono ?_); rintro e w9 ⟨rfl, hb⟩; refine ⟨_, rfl, ?_⟩; replace BK269 := bB BK269 hb; replace HB := bS1 HB GE269 hb; (try clear hb); obtain ⟨hcz10_0, hcz10_1, hcz10_2, hcz10_3, hcz10_4, hcz10_5, hfz10_0, hfz10_1, hfz10_2, hfz10_3, hfz10_4, hfz10_5⟩ := bz6 BK269) | (go_at_call 65; (with_reducible refine (impl_Mat_isTurn.calls _ _ _ _ _ _ _ A4.out).mono ?_); rintro e w11 ⟨rfl, hb⟩; replace BK269 := bB BK269 hb; replace HB := bS1 HB GE269 hb; (try clear hb); obtain ⟨hcz12_0, hcz12_1, hcz12_2, hcz12_3, hcz12_4, hcz12_5, hfz12_0, hfz12_1, hfz12_2, hfz12_3, hfz12_4, hfz12_5⟩ := bz6 BK269) | (go_at_call 66; (with_reducible refine (impl_IsVec.calls _ _ _ _ A6.out).mono ?_); rintro e w13 ⟨rfl, hb⟩; replace BK269 := bB BK269 hb; replace HB := bS1 HB GE269 hb; (try clear hb)))
   go_ret
   exact er (bbw1 HB GE269)
  ·replace c5 := Bool.eq_false_iff.mpr c5
   subst c5
   replace H := ifF H
   obtain rfl := Option.some.inj H
   go_enter Tryd.func37, Tryd.ntmps37
   go_wp2_with (first | ((with_reducible refine gd 1 rfl ?_); refine bx #[.int .i64 a0_0, .int .i64 a0_1, .int .i64 a0_2, .int .i64 a0_3, .int .i64 a0_4, .int .i64 a0_5] 48 ?_; intro gb269 hg w14 BK269 hb; have GE269 := ngw0 hg HB; replace HB := bS0 HB hb; clear hb hg; obtain ⟨hcz15_0, hcz15_1, hcz15_2, hcz15_3, hcz15_4, hcz15_5, hfz15_0, hfz15_1, hfz15_2, hfz15_3, hfz15_4, hfz15_5⟩ := bz6 BK269) | ((with_reducible refine gate_callee (f := 64) rfl ?_); refine gl 5 Tryd.func64 #[.agg #[.int .i64 a0_0, .int .i64 a0_1, .int .i64 a0_2, .int .i64 a0_3]] ?_; (with_reducible refine (impl_IsMat.calls _ _ _ _ _ _ A2.out).mono ?_); rintro e w16 ⟨rfl, hb⟩; refine ⟨_, rfl, ?_⟩; replace BK269 := bB BK269 hb; replace HB := bS1 HB GE269 hb; (try clear hb); obtain ⟨hcz17_0, hcz17_1, hcz17_2, hcz17_3, hcz17_4, hcz17_5, hfz17_0, hfz17_1, hfz17_2, hfz17_3, hfz17_4, hfz17_5⟩ := bz6 BK269) | (go_at_call 65; (with_reducible refine (impl_Mat_isTurn.calls _ _ _ _ _ _ _ A4.out).mono ?_); rintro e w18 ⟨rfl, hb⟩; replace BK269 := bB BK269 hb; replace HB := bS1 HB GE269 hb; (try clear hb)))
   go_ret
   exact er (bbw1 HB GE269)
 ·replace c3 := Bool.eq_false_iff.mpr c3
  subst c3
  replace H := ifF H
  obtain rfl := Option.some.inj H
  go_enter Tryd.func37, Tryd.ntmps37
  go_wp2_with (first | ((with_reducible refine gd 1 rfl ?_); refine bx #[.int .i64 a0_0, .int .i64 a0_1, .int .i64 a0_2, .int .i64 a0_3, .int .i64 a0_4, .int .i64 a0_5] 48 ?_; intro gb269 hg w19 BK269 hb; have GE269 := ngw0 hg HB; replace HB := bS0 HB hb; clear hb hg; obtain ⟨hcz20_0, hcz20_1, hcz20_2, hcz20_3, hcz20_4, hcz20_5, hfz20_0, hfz20_1, hfz20_2, hfz20_3, hfz20_4, hfz20_5⟩ := bz6 BK269) | ((with_reducible refine gate_callee (f := 64) rfl ?_); refine gl 5 Tryd.func64 #[.agg #[.int .i64 a0_0, .int .i64 a0_1, .int .i64 a0_2, .int .i64 a0_3]] ?_; (with_reducible refine (impl_IsMat.calls _ _ _ _ _ _ A2.out).mono ?_); rintro e w21 ⟨rfl, hb⟩; refine ⟨_, rfl, ?_⟩; replace BK269 := bB BK269 hb; replace HB := bS1 HB GE269 hb; (try clear hb)))
  go_ret
  exact er (bbw1 HB GE269)
/-! ### strings_Join: function 77 -/
/-- The elements with a text between them. -/
def strings_Join.f (l0 : List ByteArray) (a1 : ByteArray) : Option ByteArray := if l0.length ≤ 140737488355328 ∧ (Lib.join (l0.map (·.data.toList)) a1.data.toList).length ≤ 140737488355328 then some ⟨(Lib.join (l0.map (·.data.toList)) a1.data.toList).toArray⟩ else none
/-- A row of texts that lies in a block of its own. -/
def strings_Join.RC (w : World) (A : Option Addr) (xs : List ByteArray) : Prop := Kd.C Kd.string w A xs.length xs ∧ (xs = [] ∨ ∃ g, A = some ⟨g, 0, none⟩ ∧ g < w.heap.size)
theorem strings_Join.rows {e : Nat} {w : World} {base : Nat} {ok : Nat → Prop} {A : Option Addr} {c n : Nat} {xs : List ByteArray} (h : Kd.R Kd.string e w base ok (.slice A n c) xs) : strings_Join.RC w A xs := by
 have hC := (Kd.R_reads' h).2.2
 obtain ⟨inner, ho, hr⟩ := h.2
 rcases ho.2 with ⟨h1, h2⟩ | ⟨g, cap, cur, h1, _, hg, _⟩
 ·exact ⟨hC, Or.inl (List.eq_nil_of_length_eq_zero h2)⟩
 ·injection h1 with h3 h4 h5
  subst h3
  exact ⟨hC, Or.inr ⟨g, rfl, (Array.getElem?_eq_some_iff.1 hg).1⟩⟩
theorem strings_Join.calls (A0 : Option Addr) (c0 : Nat) (l0 : List ByteArray) (a1 : ByteArray) (r : ByteArray) (w : World) (hr0 : strings_Join.RC w A0 l0) (hc0 : l0.length ≤ c0) (h : strings_Join.f l0 a1 = some r) : Calls Tryd.prog 77 #[.slice A0 l0.length c0, .string a1] w fun e w' => e = .returned (.string r) ∧ Below w.heap.size w w' := by
 obtain ⟨hC, hg⟩ := hr0
 unfold strings_Join.f at h
 by_cases hc : l0.length ≤ 140737488355328 ∧ (Lib.join (l0.map (·.data.toList)) a1.data.toList).length ≤ 140737488355328
 ·rw [if_pos hc] at h
  obtain rfl := Option.some.inj h
  rcases hg with rfl | ⟨g, rfl, hlt⟩
  ·exact (Tryd.strings_Join_none A0 c0 a1 w).mono fun e w' ⟨he, hw⟩ => ⟨he, hw ▸ Below.refl _ _⟩
  ·refine Tryd.strings_Join g 0 c0 l0 a1 w (fun j x hx => ?_) hlt hc.1 hc0 hc.2
   have hj : 0 < l0.length := by
    have := (List.getElem?_eq_some_iff.1 hx).1
    omega
   obtain ⟨ad, e, hrow⟩ := hC.2.2 hj
   obtain rfl := Option.some.inj e
   obtain ⟨c, hlen, hK, hcell⟩ := hrow j x hx
   have hK : c = [.string x] := hK
   subst hK
   have := hcell 0 _ rfl
   rw [add_plain, show Kd.string.sz = 1 from rfl, Nat.mul_one, Nat.add_zero] at this
   rw [Nat.zero_add]; exact this
 ·rw [if_neg hc] at h; cases h
/-! ### impl_joined: function 57 -/
def impl_joined.l0 : Nat → ByteArray → List ByteArray → List Int → Int → Int → Option (ByteArray)
 | 0, _, _, _, _, _ => none
 | k + 1, x0, x5, x9, x10, x11 => if x11 < x10 then (if 0 ≤ x11 then (if x11 < (x9.length : Int) then ((impl_text.f (rd x9 x11)).bind fun t277 => (if x5.length < 8796093022208 then (impl_joined.l0 k x0 (x5 ++ [t277]) x9 x10 (wrap64 (x11 + 1))) else (none))) else (none)) else (none)) else ((strings_Join.f x5 x0).bind fun t281 => (some t281))
def impl_joined.f (k : Nat) (a0 : ByteArray) (l1 : List Int) : Option (ByteArray) := impl_joined.l0 k a0 (([] : List ByteArray)) l1 (l1.length : Int) 0
set_option maxHeartbeats 8000000 in
set_option maxRecDepth 100000 in
theorem impl_joined.calls (k : Nat) (a0 : ByteArray) (A1 : Option Addr) (c1 : Nat) (l1 : List Int) (r : ByteArray) (w : World) (hr1 : Kd.C (Kd.int .i64) w A1 l1.length l1) (hc1 : l1.length ≤ c1) (htab : strconv_FormatInt.Tab w) (h : impl_joined.f k a0 l1 = some r) :
  Calls Tryd.prog 57 #[.string a0, .slice A1 l1.length c1] w fun e w' => e = .returned (.string r) ∧ Below w.heap.size w w' := by
 have HTAB := Aside0.mk htab
 clear htab
 have HR1 := Aside0.mk hr1
 have HC1 := Aside0.mk hc1
 clear hr1 hc1
 have HB := asd (Below.refl w.heap.size w)
 have H : (impl_joined.l0 k a0 (([] : List ByteArray)) l1 (l1.length : Int) 0) = some r := h
 clear h
 obtain ⟨y273, hy273⟩ : ∃ y_ : List ByteArray, y_ = (([] : List ByteArray)) := ⟨_, rfl⟩
 replace H : (impl_joined.l0 k a0 y273 l1 (l1.length : Int) 0) = some r := by first | (rw [hy273]; with_reducible exact H) | (have H2_ := (Option.bind_some _ _).symm.trans H; rw [hy273]; with_reducible exact H2_) | (have H2_ := (Option.bind_some _ _).symm.trans H; with_reducible exact H2_) | with_reducible exact H | (rw [hy273]; exact H) | exact H
 have Ny273 := Aside0.mk hy273
 clear hy273
 have H' := Aside0.mk H
 clear H
 go_enter Tryd.func57, Tryd.ntmps57
 go_wp2_with (first | ((with_reducible refine gd 8 rfl ?_); refine Kd.R_lit Kd.string _ 9 ?hg (N := 8) ?hd (xs := ([] : List ByteArray)) (inner := []) (ok := fun _ => True) (okp := fun _ => True) ?hr ?hp (fun _ hk => hk) trivial (Below.refl _ _) (Nat.le_refl _) (by simp) ?_; (case hd => rfl); (case hg => rfl); (case hr => first | (go_simp; done) | (go_simp; rfl)); (case hp => exact (Reps.none _ _)); intro v274 w3 ho4 hb hg_ hnew_; clear hg_ hnew_; (first | rw [← Ny273.out] at ho4 | (simp only [Int.reduceToNat] at ho4; rw [← Ny273.out] at ho4)); have HO275 := asd (Kd.R_lower ho4 (bsz0 HB)); replace HB := bS0 HB hb; clear hb ho4))
 go_loopg [5, 11] k (fun kq v5 v11 w' => ∃ (x5_1 : List ByteArray) (x11_1 : Int), v11 = .int .i64 x11_1 ∧ Aside0 (impl_joined.l0 kq a0 x5_1 l1 (l1.length : Int) x11_1 = some r) ∧ Aside0 (kq ≤ k) ∧ Aside0 (Kd.R Kd.string 9 w' w.heap.size (fun _ => True) v5 x5_1) ∧ Aside0 (Below w.heap.size w w'))
 case atStart => exact ⟨(y273), (0), (by first | rfl | (simp; done) | (simp [*]; done)), H', ⟨Nat.le_refl _⟩, ⟨by (with_reducible repeat (first | apply Kd.R_alloc | apply Kd.R_drewN | apply Kd.R_drew)); exact HO275.out⟩, ⟨bbw0 HB⟩⟩
 case round =>
  clear H'
  try clear c1
  try clear p2
  obtain ⟨x5_1, x11_1, rfl, HA, HK1, HO_5, HB⟩ := hrel
  cases gk with
  | zero => exact absurd HA.out (by simp [impl_joined.l0])
  | succ k1 =>
   have H := HA.out
   clear HA
   simp only [impl_joined.l0] at H
   by_cases c5 : x11_1 < (l1.length : Int)
   ·rw [if_pos c5] at H
    have c5b0 := decide_eq_true c5
    clear c5
    by_cases c6 : 0 ≤ x11_1
    ·rw [if_pos c6] at H
     have c6b0 := decide_eq_true c6
     clear c6
     by_cases c7 : x11_1 < (l1.length : Int)
     ·rw [if_pos c7] at H
      have c7b0 := decide_eq_true c7
      clear c7
      obtain ⟨t277, A8, H⟩ := ob H
      try dsimp only at H
      by_cases c9 : x5_1.length < 8796093022208
      ·rw [if_pos c9] at H
       have LMc9 := Aside0.mk c9
       clear c9
       obtain ⟨y278, hy278⟩ : ∃ y_ : List ByteArray, y_ = (x5_1 ++ [t277]) := ⟨_, rfl⟩
       replace H : (impl_joined.l0 k1 a0 y278 l1 (l1.length : Int) (wrap64 (x11_1 + 1))) = some r := by first | (rw [hy278]; with_reducible exact H) | (have H2_ := (Option.bind_some _ _).symm.trans H; rw [hy278]; with_reducible exact H2_) | (have H2_ := (Option.bind_some _ _).symm.trans H; with_reducible exact H2_) | with_reducible exact H | (rw [hy278]; exact H) | exact H
       have Ny278 := Aside0.mk hy278
       clear hy278
       have H' := Aside0.mk H
       clear H
       have p276 : 0 ≤ (x11_1 : Int) := od
       have q276 : x11_1 < (l1.length : Int) := od
       obtain ⟨ad276, e276, hx276_0⟩ := Kd.at_int HR1.out x11_1 p276 q276
       cases e276
       replace hx276_0 := xb HB hx276_0
       replace p276 := eq_true p276
       replace q276 := eq_true q276
       go_wp2_with (first | ((with_reducible refine gate_callee (f := 49) rfl ?_); refine gl 17 Tryd.func49 #[.int .i64 (rd l1 x11_1)] ?_; (with_reducible refine (impl_text.calls _ _ _ (strconv_FormatInt.tabB HTAB.out (by repeat (first | (with_reducible first | exact HB.out | exact Below.refl _ _ | apply below_alloc | apply pw_below_drewN | apply below_drew1) | exact HB.out))) A8.out).mono ?_); rintro e w10 ⟨rfl, hb⟩; refine ⟨_, rfl, ?_⟩; replace HO_5 := asd (Kd.R_below (kr HO_5) hb); replace HB := bS0 HB hb; (try clear hb)) | ((with_reducible refine gate_builtin (b := .append) (xs := #[.tmp 15, .tmp 18]) rfl ?_); at_builtin; refine Kd.R_append Kd.string (w0 := w) w.heap.size rfl (.tmp 15) (.tmp 18) 84 9 (.string ⟨#[]⟩) 16 rfl Tryd.underlying84 info9 rfl (by decide) (by omega) u5 x5_1 t277 [.string t277] (fun _ => True) (fun _ => False) rfl rfl ?aP (fun _ hk => hk.elim) ?aF ?aO ?aB ?aS ?aL ?_; (case aP => exact rfl); (case aB => exact (bbw0 HB)); (case aF => exact (fun _ _ => trivial)); (case aO => exact (kr HO_5)); (case aS => exact (bsz0 HB)); (case aL => have := LMc9.out; omega); intro v279 w11 ho hb hg hat; rw [← Ny278.out] at ho; have n0_ := asd (hb); have n1_ := asd (ho); clear HB; clear HO_5; have HB := n0_; have HO280 := n1_; clear n0_ n1_; clear ho hb hg hat))
       go_roundg k1
       case measure => have := HK1.out; omega
       case rel => exact ⟨(y278), (wrap64 (x11_1 + 1)), (by first | rfl | (simp; done) | (simp [*]; done)), H', ⟨by have := HK1.out; omega⟩, ⟨by (with_reducible repeat (first | apply Kd.R_alloc | apply Kd.R_drewN | apply Kd.R_drew)); exact HO280.out⟩, ⟨bbw0 HB⟩⟩
      ·rw [if_neg c9] at H
       exact absurd H (by simp)
     ·rw [if_neg c7] at H
      exact absurd H (by simp)
    ·rw [if_neg c6] at H
     exact absurd H (by simp)
   ·rw [if_neg c5] at H
    have c5b0 := decide_eq_false c5
    clear c5
    obtain ⟨t281, A12, H⟩ := ob H
    try dsimp only at H
    obtain rfl := Option.some.inj H
    obtain ⟨Ao13, co13, eo13⟩ := Kd.R_slice HO_5.out
    subst eo13
    go_wp2_with (first | ((with_reducible refine gate_callee (f := 77) rfl ?_); refine gl 23 Tryd.func77 #[.slice Ao13 x5_1.length co13, .string a0] ?_; (with_reducible refine (strings_Join.calls _ _ _ _ _ _ ?side1 ?side2 A12.out).mono ?_); (case side1 => repeat (first | exact strings_Join.rows HO_5.out | (with_reducible refine Kd.C_alloc ?_ _) | (with_reducible refine Kd.C_drewN ?_ _) | (with_reducible refine Kd.C_drew ?_))); (case side2 => exact (Kd.R_reads' HO_5.out).2.1); rintro e w14 ⟨rfl, hb⟩; refine ⟨_, rfl, ?_⟩; replace HO_5 := asd (Kd.R_below (kr HO_5) hb); replace HB := bS0 HB hb; (try clear hb)))
    go_ret
    exact er (bbw0 HB)
/-! ### impl_MatText: function 38 -/
def impl_MatText.f (k : Nat) (a0_0 : Int) (a0_1 : Int) (a0_2 : Int) (a0_3 : Int) : Option (ByteArray) := (impl_IsMat.f a0_0 a0_1 a0_2 a0_3).bind fun t283 => (if t283 = true then ((impl_joined.f k (⟨#[44]⟩ : ByteArray) (([a0_0, a0_1, a0_2, a0_3] : List Int))).bind fun t287 => (some t287)) else (some (⟨#[]⟩ : ByteArray)))
set_option maxHeartbeats 8000000 in
set_option maxRecDepth 100000 in
theorem impl_MatText.calls (k : Nat) (a0_0 : Int) (a0_1 : Int) (a0_2 : Int) (a0_3 : Int) (r : ByteArray) (w : World) (htab : strconv_FormatInt.Tab w) (h : impl_MatText.f k a0_0 a0_1 a0_2 a0_3 = some r) :
  Calls Tryd.prog 38 #[.agg #[.int .i64 a0_0, .int .i64 a0_1, .int .i64 a0_2, .int .i64 a0_3]] w fun e w' => e = .returned (.string r) ∧ Below w.heap.size w w' := by
 have HTAB := Aside0.mk htab
 clear htab
 have hu45 := Tryd.underlying45
 have HB := asd (Below.refl w.heap.size w)
 have H : ((impl_IsMat.f a0_0 a0_1 a0_2 a0_3).bind fun t283 => (if t283 = true then ((impl_joined.f k (⟨#[44]⟩ : ByteArray) (([a0_0, a0_1, a0_2, a0_3] : List Int))).bind fun t287 => (some t287)) else (some (⟨#[]⟩ : ByteArray)))) = some r := h
 clear h
 obtain ⟨t283, A2, H⟩ := ob H
 try dsimp only at H
 by_cases c3 : t283 = true
 ·subst c3
  replace H := ifT H
  obtain ⟨y284, hy284⟩ : ∃ y_ : List Int, y_ = (([a0_0, a0_1, a0_2, a0_3] : List Int)) := ⟨_, rfl⟩
  replace H : ((impl_joined.f k (⟨#[44]⟩ : ByteArray) y284).bind fun t287 => (some t287)) = some r := by first | (rw [hy284]; with_reducible exact H) | (have H2_ := (Option.bind_some _ _).symm.trans H; rw [hy284]; with_reducible exact H2_) | (have H2_ := (Option.bind_some _ _).symm.trans H; with_reducible exact H2_) | with_reducible exact H | (rw [hy284]; exact H) | exact H
  have Ny284 := Aside0.mk hy284
  clear hy284
  obtain ⟨t287, A4, H⟩ := ob H
  try dsimp only at H
  obtain rfl := Option.some.inj H
  go_enter Tryd.func38, Tryd.ntmps38
  go_wp2_with (first | ((with_reducible refine gd 1 rfl ?_); refine bx #[.int .i64 a0_0, .int .i64 a0_1, .int .i64 a0_2, .int .i64 a0_3] 45 ?_; intro gb282 hg w5 BK282 hb; have GE282 := ngw0 hg HB; replace HB := bS0 HB hb; clear hb hg; obtain ⟨hcz6_0, hcz6_1, hcz6_2, hcz6_3, hfz6_0, hfz6_1, hfz6_2, hfz6_3⟩ := bz4 BK282) | ((with_reducible refine gate_callee (f := 64) rfl ?_); refine gl 4 Tryd.func64 #[.agg #[.int .i64 a0_0, .int .i64 a0_1, .int .i64 a0_2, .int .i64 a0_3]] ?_; (with_reducible refine (impl_IsMat.calls _ _ _ _ _ _ A2.out).mono ?_); rintro e w7 ⟨rfl, hb⟩; refine ⟨_, rfl, ?_⟩; replace BK282 := bB BK282 hb; replace HB := bS1 HB GE282 hb; (try clear hb); obtain ⟨hcz8_0, hcz8_1, hcz8_2, hcz8_3, hfz8_0, hfz8_1, hfz8_2, hfz8_3⟩ := bz4 BK282) | ((with_reducible refine gd 14 rfl ?_); refine Kd.R_lit (Kd.int .i64) _ 2 ?hg (N := 14) ?hd (xs := ([a0_0, a0_1, a0_2, a0_3] : List Int)) (inner := [.int .i64 a0_0, .int .i64 a0_1, .int .i64 a0_2, .int .i64 a0_3]) (ok := fun _ => True) (okp := fun _ => True) ?hr ?hp (fun _ hk => hk) trivial (Below.refl _ _) (Nat.le_refl _) (by simp) ?_; (case hd => rfl); (case hg => rfl); (case hr => first | (go_simp; done) | (go_simp; rfl)); (case hp => exact (Reps.one (show Kd.M (Kd.int .i64) _ _ _ a0_0 [.int .i64 a0_0] from rfl) (Reps.one (show Kd.M (Kd.int .i64) _ _ _ a0_1 [.int .i64 a0_1] from rfl) (Reps.one (show Kd.M (Kd.int .i64) _ _ _ a0_2 [.int .i64 a0_2] from rfl) (Reps.one (show Kd.M (Kd.int .i64) _ _ _ a0_3 [.int .i64 a0_3] from rfl) (Reps.none _ _)))))); intro v285 w9 ho10 hb hg_ hnew_; clear hg_ hnew_; (first | rw [← Ny284.out] at ho10 | (simp only [Int.reduceToNat] at ho10; rw [← Ny284.out] at ho10)); have HO286 := asd (Kd.R_lower ho10 (bsz1 HB GE282)); replace BK282 := bB BK282 hb; replace HB := bS1 HB GE282 hb; clear hb ho10; obtain ⟨Ao11, co11, eo11⟩ := Kd.R_slice HO286.out; subst eo11) | ((with_reducible refine gate_callee (f := 57) rfl ?_); refine gl 15 Tryd.func57 #[.string (⟨#[44]⟩ : ByteArray), .slice Ao11 y284.length co11] ?_; (with_reducible refine (impl_joined.calls _ _ _ _ _ _ _ ?side1 ?side2 (strconv_FormatInt.tabB HTAB.out (by repeat (first | (with_reducible first | exact HB.out | exact Below.refl _ _ | apply below_alloc | apply pw_below_drewN | apply below_drew1 | refine below_set ?_ GE282.out) | exact HB.out))) A4.out).mono ?_); (case side1 => exact ks (Kd.R_reads' HO286.out).2.2); (case side2 => exact (Kd.R_reads' HO286.out).2.1); rintro e w12 ⟨rfl, hb⟩; refine ⟨_, rfl, ?_⟩; replace HO286 := asd (Kd.R_below (kr HO286) hb); replace BK282 := bB BK282 hb; replace HB := bS1 HB GE282 hb; (try clear hb)))
  go_ret
  exact er (bbw1 HB GE282)
 ·replace c3 := Bool.eq_false_iff.mpr c3
  subst c3
  replace H := ifF H
  obtain rfl := Option.some.inj H
  go_enter Tryd.func38, Tryd.ntmps38
  go_wp2_with (first | ((with_reducible refine gd 1 rfl ?_); refine bx #[.int .i64 a0_0, .int .i64 a0_1, .int .i64 a0_2, .int .i64 a0_3] 45 ?_; intro gb282 hg w13 BK282 hb; have GE282 := ngw0 hg HB; replace HB := bS0 HB hb; clear hb hg; obtain ⟨hcz14_0, hcz14_1, hcz14_2, hcz14_3, hfz14_0, hfz14_1, hfz14_2, hfz14_3⟩ := bz4 BK282) | ((with_reducible refine gate_callee (f := 64) rfl ?_); refine gl 4 Tryd.func64 #[.agg #[.int .i64 a0_0, .int .i64 a0_1, .int .i64 a0_2, .int .i64 a0_3]] ?_; (with_reducible refine (impl_IsMat.calls _ _ _ _ _ _ A2.out).mono ?_); rintro e w15 ⟨rfl, hb⟩; refine ⟨_, rfl, ?_⟩; replace BK282 := bB BK282 hb; replace HB := bS1 HB GE282 hb; (try clear hb)))
  go_ret
  exact er (bbw1 HB GE282)

end Go.Proofs.YtkjdndikgekidaaDoor.PB
