/- Walks written by program: each Go function that the law reaches comes to the plain function beside it. -/
import Derived.Test.YtnblfcibgokccaaGreatDoorPAx0
import Derived.Test.YtnblfcibgokccaaGreatDoorPAx1
import Derived.Test.YtnblfcibgokccaaGreatDoorPAx2
import Derived.Test.YtnblfcibgokccaaGreatDoorPAx3
import Derived.Test.YtnblfcibgokccaaGreatDoorPAx4
import Derived.Test.YtnblfcibgokccaaGreatDoorPAx5
import Derived.Test.YtnblfcibgokccaaGreatDoorPAx6
import Derived.Test.YtnblfcibgokccaaGreatDoorPAx7
import Derived.Test.YtnblfcibgokccaaGreatDoorPAx8
import Derived.Test.YtnblfcibgokccaaGreatDoorPAx9
namespace Go.Proofs.YtnblfcibgokccaaGreatDoor.PA
open Go.RowKit Go.Proofs.YtnblfcibgokccaaGreatDoorW.PrintWords Go.Proofs.YtnblfcibgokccaaGreatDoorW.PrintLast Go.Proofs.YtnblfcibgokccaaGreatDoorW.PrintMore
attribute [local go_sem] max2_int min2_int max_two min_two max_three min_three max_four min_four   -- for this text's walks alone
set_option linter.unusedVariables false
set_option linter.unusedSimpArgs false

attribute [local go_sem high] eqA25 eqA27
/-! ### laws_FnAxes: function 4 -/
def laws_FnAxes.j0 : Nat → Int → Bool → Int → Int → Int → Int → Int → Int → Option (Bool)
 | 0, _, _, _, _, _, _, _, _ => none
 | k + 1, x5, x99, x487000, x487001, x487002, x487003, x491000, x491001 => if x99 = true then (some false) else (if x5 = 0 then ((impl_ApplyMat.f k x487000 x487001 x487002 x487003 x491000 x491001).bind fun bt518 => ((impl_DivisorOf.f k x491000 x491001).bind fun bt522 => (if bt518.2.2 = 3 then (if bt522.2 = 0 then (some (bt522.1 == 1)) else (some false)) else (if bt518.2.2 = 0 then (if (bt518.1 == x491000 && (bt518.2.1 == x491001)) = true then (if bt522.2 = 0 then (some (bt522.1 == 1)) else (some false)) else (some false)) else (some false))))) else (some true))
def laws_FnAxes.f (k : Nat) (l0 : List Int) : Option (Bool) := (laws_big.f l0).bind fun t481 => (if t481 = true then (some true) else ((spec_DrawAxisOf.f k l0).bind fun bt482 => ((impl_AxisOf.f k bt482.1 bt482.2.1 bt482.2.2.1 bt482.2.2.2).bind fun bt487 => ((spec_AxisOf.f k bt482.1 bt482.2.1 bt482.2.2.1 bt482.2.2.2).bind fun bt491 => ((impl_MatText.f k bt482.1 bt482.2.1 bt482.2.2.1 bt482.2.2.2).bind fun t495 => ((impl_ReadMat.f k t495).bind fun bt496 => ((spec_DrawReadMat.f k l0).bind fun t502 => ((impl_ReadMat.f k t502).bind fun bt503 => ((spec_ReadMat.f k t502).bind fun bt509 => (if bt487.2.2 = bt491.2.2 then (if (!(bt487.1 == bt491.1) || (!(bt487.2.1 == bt491.2.1))) = true then (laws_FnAxes.j0 k bt487.2.2 true bt482.1 bt482.2.1 bt482.2.2.1 bt482.2.2.2 bt487.1 bt487.2.1) else ((spec_MatText.f k bt482.1 bt482.2.1 bt482.2.2.1 bt482.2.2.2).bind fun t515 => (if t495.toList = t515.toList then (if (bt496.2.2.2.2 != (t495.toList != ([] : List UInt8))) = true then (laws_FnAxes.j0 k bt487.2.2 true bt482.1 bt482.2.1 bt482.2.2.1 bt482.2.2.2 bt487.1 bt487.2.1) else (if bt496.2.2.2.2 = true then (if (!(bt496.1 == bt482.1) || (!(bt496.2.1 == bt482.2.1) || (!(bt496.2.2.1 == bt482.2.2.1) || (!(bt496.2.2.2.1 == bt482.2.2.2))))) = true then (laws_FnAxes.j0 k bt487.2.2 true bt482.1 bt482.2.1 bt482.2.2.1 bt482.2.2.2 bt487.1 bt487.2.1) else (if (!(bt503.1 == bt509.1) || (!(bt503.2.1 == bt509.2.1) || (!(bt503.2.2.1 == bt509.2.2.1) || (!(bt503.2.2.2.1 == bt509.2.2.2.1))))) = true then (laws_FnAxes.j0 k bt487.2.2 true bt482.1 bt482.2.1 bt482.2.2.1 bt482.2.2.2 bt487.1 bt487.2.1) else (if (bt503.2.2.2.2 != bt509.2.2.2.2) = true then (laws_FnAxes.j0 k bt487.2.2 true bt482.1 bt482.2.1 bt482.2.2.1 bt482.2.2.2 bt487.1 bt487.2.1) else (if bt503.2.2.2.2 = true then ((impl_MatText.f k bt503.1 bt503.2.1 bt503.2.2.1 bt503.2.2.2.1).bind fun t516 => (laws_FnAxes.j0 k bt487.2.2 (t516.toList != t502.toList) bt482.1 bt482.2.1 bt482.2.2.1 bt482.2.2.2 bt487.1 bt487.2.1)) else (laws_FnAxes.j0 k bt487.2.2 false bt482.1 bt482.2.1 bt482.2.2.1 bt482.2.2.2 bt487.1 bt487.2.1))))) else (if (!(bt503.1 == bt509.1) || (!(bt503.2.1 == bt509.2.1) || (!(bt503.2.2.1 == bt509.2.2.1) || (!(bt503.2.2.2.1 == bt509.2.2.2.1))))) = true then (laws_FnAxes.j0 k bt487.2.2 true bt482.1 bt482.2.1 bt482.2.2.1 bt482.2.2.2 bt487.1 bt487.2.1) else (if (bt503.2.2.2.2 != bt509.2.2.2.2) = true then (laws_FnAxes.j0 k bt487.2.2 true bt482.1 bt482.2.1 bt482.2.2.1 bt482.2.2.2 bt487.1 bt487.2.1) else (if bt503.2.2.2.2 = true then ((impl_MatText.f k bt503.1 bt503.2.1 bt503.2.2.1 bt503.2.2.2.1).bind fun t517 => (laws_FnAxes.j0 k bt487.2.2 (t517.toList != t502.toList) bt482.1 bt482.2.1 bt482.2.2.1 bt482.2.2.2 bt487.1 bt487.2.1)) else (laws_FnAxes.j0 k bt487.2.2 false bt482.1 bt482.2.1 bt482.2.2.1 bt482.2.2.2 bt487.1 bt487.2.1)))))) else (laws_FnAxes.j0 k bt487.2.2 true bt482.1 bt482.2.1 bt482.2.2.1 bt482.2.2.2 bt487.1 bt487.2.1)))) else (laws_FnAxes.j0 k bt487.2.2 true bt482.1 bt482.2.1 bt482.2.2.1 bt482.2.2.2 bt487.1 bt487.2.1)))))))))))
theorem laws_FnAxes.j0_dead (k : Nat) (a0 : Int) (a2 : Int) (a3 : Int) (a4 : Int) (a5 : Int) (a6 : Int) (a7 : Int) : laws_FnAxes.j0 k a0 true a2 a3 a4 a5 a6 a7 ≠ some true := by
 cases k <;> simp [laws_FnAxes.j0]
set_option maxHeartbeats 80000000 in
set_option maxRecDepth 100000 in
theorem laws_FnAxes.calls (k : Nat) (A0 : Option Addr) (c0 : Nat) (l0 : List Int) (w : World) (hr0 : Kd.C (Kd.int .u8) w A0 l0.length l0) (hc0 : l0.length ≤ c0) (htab : texts.Tab w) (h : laws_FnAxes.f k l0 = some true) :
  Calls Tryz.prog 4 #[.slice A0 l0.length c0] w fun e w' => e = .returned (.bool true) ∧ Below w.heap.size w w' := by
 have HTAB := Aside0.mk htab
 clear htab
 have hu25 := Tryz.underlying25
 have hu27 := Tryz.underlying27
 have HR0 := Aside0.mk hr0
 have HC0 := Aside0.mk hc0
 clear hr0 hc0
 have HB := asd (Below.refl w.heap.size w)
 have H : ((laws_big.f l0).bind fun t481 => (if t481 = true then (some true) else ((spec_DrawAxisOf.f k l0).bind fun bt482 => ((impl_AxisOf.f k bt482.1 bt482.2.1 bt482.2.2.1 bt482.2.2.2).bind fun bt487 => ((spec_AxisOf.f k bt482.1 bt482.2.1 bt482.2.2.1 bt482.2.2.2).bind fun bt491 => ((impl_MatText.f k bt482.1 bt482.2.1 bt482.2.2.1 bt482.2.2.2).bind fun t495 => ((impl_ReadMat.f k t495).bind fun bt496 => ((spec_DrawReadMat.f k l0).bind fun t502 => ((impl_ReadMat.f k t502).bind fun bt503 => ((spec_ReadMat.f k t502).bind fun bt509 => (if bt487.2.2 = bt491.2.2 then (if (!(bt487.1 == bt491.1) || (!(bt487.2.1 == bt491.2.1))) = true then (laws_FnAxes.j0 k bt487.2.2 true bt482.1 bt482.2.1 bt482.2.2.1 bt482.2.2.2 bt487.1 bt487.2.1) else ((spec_MatText.f k bt482.1 bt482.2.1 bt482.2.2.1 bt482.2.2.2).bind fun t515 => (if t495.toList = t515.toList then (if (bt496.2.2.2.2 != (t495.toList != ([] : List UInt8))) = true then (laws_FnAxes.j0 k bt487.2.2 true bt482.1 bt482.2.1 bt482.2.2.1 bt482.2.2.2 bt487.1 bt487.2.1) else (if bt496.2.2.2.2 = true then (if (!(bt496.1 == bt482.1) || (!(bt496.2.1 == bt482.2.1) || (!(bt496.2.2.1 == bt482.2.2.1) || (!(bt496.2.2.2.1 == bt482.2.2.2))))) = true then (laws_FnAxes.j0 k bt487.2.2 true bt482.1 bt482.2.1 bt482.2.2.1 bt482.2.2.2 bt487.1 bt487.2.1) else (if (!(bt503.1 == bt509.1) || (!(bt503.2.1 == bt509.2.1) || (!(bt503.2.2.1 == bt509.2.2.1) || (!(bt503.2.2.2.1 == bt509.2.2.2.1))))) = true then (laws_FnAxes.j0 k bt487.2.2 true bt482.1 bt482.2.1 bt482.2.2.1 bt482.2.2.2 bt487.1 bt487.2.1) else (if (bt503.2.2.2.2 != bt509.2.2.2.2) = true then (laws_FnAxes.j0 k bt487.2.2 true bt482.1 bt482.2.1 bt482.2.2.1 bt482.2.2.2 bt487.1 bt487.2.1) else (if bt503.2.2.2.2 = true then ((impl_MatText.f k bt503.1 bt503.2.1 bt503.2.2.1 bt503.2.2.2.1).bind fun t516 => (laws_FnAxes.j0 k bt487.2.2 (t516.toList != t502.toList) bt482.1 bt482.2.1 bt482.2.2.1 bt482.2.2.2 bt487.1 bt487.2.1)) else (laws_FnAxes.j0 k bt487.2.2 false bt482.1 bt482.2.1 bt482.2.2.1 bt482.2.2.2 bt487.1 bt487.2.1))))) else (if (!(bt503.1 == bt509.1) || (!(bt503.2.1 == bt509.2.1) || (!(bt503.2.2.1 == bt509.2.2.1) || (!(bt503.2.2.2.1 == bt509.2.2.2.1))))) = true then (laws_FnAxes.j0 k bt487.2.2 true bt482.1 bt482.2.1 bt482.2.2.1 bt482.2.2.2 bt487.1 bt487.2.1) else (if (bt503.2.2.2.2 != bt509.2.2.2.2) = true then (laws_FnAxes.j0 k bt487.2.2 true bt482.1 bt482.2.1 bt482.2.2.1 bt482.2.2.2 bt487.1 bt487.2.1) else (if bt503.2.2.2.2 = true then ((impl_MatText.f k bt503.1 bt503.2.1 bt503.2.2.1 bt503.2.2.2.1).bind fun t517 => (laws_FnAxes.j0 k bt487.2.2 (t517.toList != t502.toList) bt482.1 bt482.2.1 bt482.2.2.1 bt482.2.2.2 bt487.1 bt487.2.1)) else (laws_FnAxes.j0 k bt487.2.2 false bt482.1 bt482.2.1 bt482.2.2.1 bt482.2.2.2 bt487.1 bt487.2.1)))))) else (laws_FnAxes.j0 k bt487.2.2 true bt482.1 bt482.2.1 bt482.2.2.1 bt482.2.2.2 bt487.1 bt487.2.1)))) else (laws_FnAxes.j0 k bt487.2.2 true bt482.1 bt482.2.1 bt482.2.2.1 bt482.2.2.2 bt487.1 bt487.2.1)))))))))))) = some true := h
 clear h
 obtain ⟨t481, A2, H⟩ := ob H
 try dsimp only at H
 by_cases c3 : t481 = true
 ·subst c3
  replace H := ifT H
  clear H
  go_enter Tryz.func4, Tryz.ntmps4
  go_wp2_with (first | ((with_reducible refine gate_callee (f := 6) rfl ?_); refine gl 21 Tryz.func6 #[.slice A0 l0.length c0] ?_; (with_reducible refine (laws_big.calls _ _ _ _ _ ?side1 ?side2 A2.out).mono ?_); (case side1 => exact ks HR0.out); (case side2 => exact HC0.out); rintro e w' ⟨rfl, ⟨nd, rfl⟩⟩; refine ⟨_, rfl, ?_⟩))
  go_ret
  exact er (bbw0 HB)
 ·replace c3 := Bool.eq_false_iff.mpr c3
  subst c3
  replace H := ifF H
  obtain ⟨⟨t482, t483, t484, t485⟩, A4, H⟩ := ob H
  try dsimp only at H
  obtain ⟨⟨t487, t488, t489⟩, A5, H⟩ := ob H
  try dsimp only at H
  obtain ⟨⟨t491, t492, t493⟩, A6, H⟩ := ob H
  try dsimp only at H
  obtain ⟨t495, A7, H⟩ := ob H
  try dsimp only at H
  obtain ⟨⟨t496, t497, t498, t499, t500⟩, A8, H⟩ := ob H
  try dsimp only at H
  obtain ⟨t502, A9, H⟩ := ob H
  try dsimp only at H
  obtain ⟨⟨t503, t504, t505, t506, t507⟩, A10, H⟩ := ob H
  try dsimp only at H
  obtain ⟨⟨t509, t510, t511, t512, t513⟩, A11, H⟩ := ob H
  try dsimp only at H
  have HC12 := Aside0.mk H
  clear H
  go_enter Tryz.func4, Tryz.ntmps4
  go_upto_region 11 with (first | ((with_reducible refine gate_callee (f := 6) rfl ?_); refine gl 21 Tryz.func6 #[.slice A0 l0.length c0] ?_; (with_reducible refine (laws_big.calls _ _ _ _ _ ?side1 ?side2 A2.out).mono ?_); (case side1 => exact ks HR0.out); (case side2 => exact HC0.out); rintro e w' ⟨rfl, ⟨nd, rfl⟩⟩; refine ⟨_, rfl, ?_⟩) | ((with_reducible refine gate_callee (f := 15) rfl ?_); refine gl 23 Tryz.func15 #[.slice A0 l0.length c0] ?_; (with_reducible refine (spec_DrawAxisOf.calls _ _ _ _ _ _ _ _ _ ?side1 ?side2 A4.out).mono ?_); (case side1 => exact ks HR0.out); (case side2 => exact HC0.out); rintro e w13 ⟨rfl, hb⟩; refine ⟨_, rfl, ?_⟩; replace HB := bS0 HB hb; (try clear hb)) | ((with_reducible refine gd 3 rfl ?_); refine bx #[.int .i64 0, .int .i64 0, .int .i64 0, .int .i64 0] 25 ?_; intro gb486 hg w14 BK486 hb; have GE486 := ngw0 hg HB; replace HB := bS0 HB hb; clear hb hg; obtain ⟨hcz15_0, hcz15_1, hcz15_2, hcz15_3, hfz15_0, hfz15_1, hfz15_2, hfz15_3⟩ := bz4 BK486) | ((with_reducible refine gate_callee (f := 16) rfl ?_); refine gl 26 Tryz.func16 #[.agg #[.int .i64 t482, .int .i64 t483, .int .i64 t484, .int .i64 t485]] ?_; (with_reducible refine (impl_AxisOf.calls _ _ _ _ _ _ _ _ _ A5.out).mono ?_); rintro e w16 ⟨rfl, hb⟩; refine ⟨_, rfl, ?_⟩; replace BK486 := asd (blk_below (g := gb486) (o := .cells #[.int .i64 t482, .int .i64 t483, .int .i64 t484, .int .i64 t485] 25 (0, 0)) (bq0 BK486) hb); replace HB := bS1 HB GE486 hb; (try clear hb)) | ((with_reducible refine gd 4 rfl ?_); refine bx #[.int .i64 0, .int .i64 0] 27 ?_; intro gb490 hg w17 BK490 hb; have GE490 := ngw1 hg HB GE486; replace HB := bS1 HB GE486 hb; have NB486_490 := nlt hg BK486; have NB490_486 := nsy (nlt hg BK486); replace BK486 := bB BK486 hb; clear hb hg; have hnb18 := NB490_486.out; have hnc18 := NB486_490.out; obtain ⟨hcz19_0, hcz19_1, hfz19_0, hfz19_1⟩ := bz2 BK490; obtain ⟨hcz20_0, hcz20_1, hcz20_2, hcz20_3, hfz20_0, hfz20_1, hfz20_2, hfz20_3⟩ := bz4 BK486) | ((with_reducible refine gate_callee (f := 17) rfl ?_); refine gl 31 Tryz.func17 #[.agg #[.int .i64 t482, .int .i64 t483, .int .i64 t484, .int .i64 t485]] ?_; (with_reducible refine (spec_AxisOf.calls _ _ _ _ _ _ _ _ _ A6.out).mono ?_); rintro e w21 ⟨rfl, hb⟩; refine ⟨_, rfl, ?_⟩; replace BK486 := asd (blk_below (g := gb486) (o := .cells #[.int .i64 t482, .int .i64 t483, .int .i64 t484, .int .i64 t485] 25 (0, 0)) (bq1 BK486 NB486_490) hb); replace BK490 := asd (blk_below (g := gb490) (o := .cells #[.int .i64 t487, .int .i64 t488] 27 (0, 0)) (bq0 BK490) hb); replace HB := bS2 HB GE486 GE490 hb; (try clear hb)) | ((with_reducible refine gd 6 rfl ?_); refine bx #[.int .i64 0, .int .i64 0] 27 ?_; intro gb494 hg w22 BK494 hb; have GE494 := ngw2 hg HB GE486 GE490; replace HB := bS2 HB GE486 GE490 hb; have NB486_494 := nlt hg BK486; have NB494_486 := nsy (nlt hg BK486); replace BK486 := bB BK486 hb; have NB490_494 := nlt hg BK490; have NB494_490 := nsy (nlt hg BK490); replace BK490 := bB BK490 hb; clear hb hg; have hnb23 := NB494_486.out; have hnc23 := NB486_494.out; have hnb24 := NB494_490.out; have hnc24 := NB490_494.out; obtain ⟨hcz25_0, hcz25_1, hfz25_0, hfz25_1⟩ := bz2 BK494; obtain ⟨hcz26_0, hcz26_1, hcz26_2, hcz26_3, hfz26_0, hfz26_1, hfz26_2, hfz26_3⟩ := bz4 BK486) | ((with_reducible refine gate_callee (f := 18) rfl ?_); refine gl 35 Tryz.func18 #[.agg #[.int .i64 t482, .int .i64 t483, .int .i64 t484, .int .i64 t485]] ?_; (with_reducible refine (impl_MatText.calls _ _ _ _ _ _ _ (texts.tabB HTAB.out (by repeat (first | (with_reducible first | exact HB.out | exact Below.refl _ _ | apply below_alloc | apply pw_below_drewN | apply below_drew1 | refine below_set ?_ GE486.out | refine below_set ?_ GE490.out | refine below_set ?_ GE494.out | refine below_set ?_ GE501.out | refine below_set ?_ GE508.out | refine below_set ?_ GE514.out | refine below_set ?_ GE521.out) | exact HB.out))) A7.out).mono ?_); rintro e w27 ⟨rfl, hb⟩; refine ⟨_, rfl, ?_⟩; replace BK486 := asd (blk_below (g := gb486) (o := .cells #[.int .i64 t482, .int .i64 t483, .int .i64 t484, .int .i64 t485] 25 (0, 0)) (bq1 BK486 NB486_494) hb); replace BK490 := asd (blk_below (g := gb490) (o := .cells #[.int .i64 t487, .int .i64 t488] 27 (0, 0)) (bq1 BK490 NB490_494) hb); replace BK494 := asd (blk_below (g := gb494) (o := .cells #[.int .i64 t491, .int .i64 t492] 27 (0, 0)) (bq0 BK494) hb); replace HB := bS3 HB GE486 GE490 GE494 hb; (try clear hb)) | ((with_reducible refine gate_callee (f := 19) rfl ?_); refine gl 38 Tryz.func19 #[.string t495] ?_; (with_reducible refine (impl_ReadMat.calls _ _ _ _ _ _ _ _ (texts.tabB HTAB.out (by repeat (first | (with_reducible first | exact HB.out | exact Below.refl _ _ | apply below_alloc | apply pw_below_drewN | apply below_drew1 | refine below_set ?_ GE486.out | refine below_set ?_ GE490.out | refine below_set ?_ GE494.out | refine below_set ?_ GE501.out | refine below_set ?_ GE508.out | refine below_set ?_ GE514.out | refine below_set ?_ GE521.out) | exact HB.out))) A8.out).mono ?_); rintro e w28 ⟨rfl, hb⟩; refine ⟨_, rfl, ?_⟩; replace BK486 := bB BK486 hb; replace BK490 := bB BK490 hb; replace BK494 := bB BK494 hb; replace HB := bS3 HB GE486 GE490 GE494 hb; (try clear hb)) | ((with_reducible refine gd 9 rfl ?_); refine bx #[.int .i64 0, .int .i64 0, .int .i64 0, .int .i64 0] 25 ?_; intro gb501 hg w29 BK501 hb; have GE501 := ngw3 hg HB GE486 GE490 GE494; replace HB := bS3 HB GE486 GE490 GE494 hb; have NB486_501 := nlt hg BK486; have NB501_486 := nsy (nlt hg BK486); replace BK486 := bB BK486 hb; have NB490_501 := nlt hg BK490; have NB501_490 := nsy (nlt hg BK490); replace BK490 := bB BK490 hb; have NB494_501 := nlt hg BK494; have NB501_494 := nsy (nlt hg BK494); replace BK494 := bB BK494 hb; clear hb hg; have hnb30 := NB501_486.out; have hnc30 := NB486_501.out; have hnb31 := NB501_490.out; have hnc31 := NB490_501.out; have hnb32 := NB501_494.out; have hnc32 := NB494_501.out; obtain ⟨hcz33_0, hcz33_1, hcz33_2, hcz33_3, hfz33_0, hfz33_1, hfz33_2, hfz33_3⟩ := bz4 BK501) | ((with_reducible refine gate_callee (f := 20) rfl ?_); refine gl 42 Tryz.func20 #[.slice A0 l0.length c0] ?_; (with_reducible refine (spec_DrawReadMat.calls _ _ _ _ _ _ ?side1 ?side2 A9.out).mono ?_); (case side1 => exact Kd.C_below HR0.out (bbw4 HB GE486 GE490 GE494 GE501)); (case side2 => exact HC0.out); rintro e w34 ⟨rfl, hb⟩; refine ⟨_, rfl, ?_⟩; replace BK486 := asd (blk_below (g := gb486) (o := .cells #[.int .i64 t482, .int .i64 t483, .int .i64 t484, .int .i64 t485] 25 (0, 0)) (bq1 BK486 NB486_501) hb); replace BK490 := asd (blk_below (g := gb490) (o := .cells #[.int .i64 t487, .int .i64 t488] 27 (0, 0)) (bq1 BK490 NB490_501) hb); replace BK494 := asd (blk_below (g := gb494) (o := .cells #[.int .i64 t491, .int .i64 t492] 27 (0, 0)) (bq1 BK494 NB494_501) hb); replace BK501 := asd (blk_below (g := gb501) (o := .cells #[.int .i64 t496, .int .i64 t497, .int .i64 t498, .int .i64 t499] 25 (0, 0)) (bq0 BK501) hb); replace HB := bS4 HB GE486 GE490 GE494 GE501 hb; (try clear hb)) | ((with_reducible refine gate_callee (f := 19) rfl ?_); refine gl 45 Tryz.func19 #[.string t502] ?_; (with_reducible refine (impl_ReadMat.calls _ _ _ _ _ _ _ _ (texts.tabB HTAB.out (by repeat (first | (with_reducible first | exact HB.out | exact Below.refl _ _ | apply below_alloc | apply pw_below_drewN | apply below_drew1 | refine below_set ?_ GE486.out | refine below_set ?_ GE490.out | refine below_set ?_ GE494.out | refine below_set ?_ GE501.out | refine below_set ?_ GE508.out | refine below_set ?_ GE514.out | refine below_set ?_ GE521.out) | exact HB.out))) A10.out).mono ?_); rintro e w35 ⟨rfl, hb⟩; refine ⟨_, rfl, ?_⟩; replace BK486 := bB BK486 hb; replace BK490 := bB BK490 hb; replace BK494 := bB BK494 hb; replace BK501 := bB BK501 hb; replace HB := bS4 HB GE486 GE490 GE494 GE501 hb; (try clear hb)) | ((with_reducible refine gd 12 rfl ?_); refine bx #[.int .i64 0, .int .i64 0, .int .i64 0, .int .i64 0] 25 ?_; intro gb508 hg w36 BK508 hb; have GE508 := ngw4 hg HB GE486 GE490 GE494 GE501; replace HB := bS4 HB GE486 GE490 GE494 GE501 hb; have NB486_508 := nlt hg BK486; have NB508_486 := nsy (nlt hg BK486); replace BK486 := bB BK486 hb; have NB490_508 := nlt hg BK490; have NB508_490 := nsy (nlt hg BK490); replace BK490 := bB BK490 hb; have NB494_508 := nlt hg BK494; have NB508_494 := nsy (nlt hg BK494); replace BK494 := bB BK494 hb; have NB501_508 := nlt hg BK501; have NB508_501 := nsy (nlt hg BK501); replace BK501 := bB BK501 hb; clear hb hg; have hnb37 := NB508_486.out; have hnc37 := NB486_508.out; have hnb38 := NB508_490.out; have hnc38 := NB490_508.out; have hnb39 := NB508_494.out; have hnc39 := NB494_508.out; have hnb40 := NB508_501.out; have hnc40 := NB501_508.out; obtain ⟨hcz41_0, hcz41_1, hcz41_2, hcz41_3, hfz41_0, hfz41_1, hfz41_2, hfz41_3⟩ := bz4 BK508) | ((with_reducible refine gate_callee (f := 21) rfl ?_); refine gl 50 Tryz.func21 #[.string t502] ?_; (with_reducible refine (spec_ReadMat.calls _ _ _ _ _ _ _ _ A11.out).mono ?_); rintro e w42 ⟨rfl, hb⟩; refine ⟨_, rfl, ?_⟩; replace BK486 := asd (blk_below (g := gb486) (o := .cells #[.int .i64 t482, .int .i64 t483, .int .i64 t484, .int .i64 t485] 25 (0, 0)) (bq1 BK486 NB486_508) hb); replace BK490 := asd (blk_below (g := gb490) (o := .cells #[.int .i64 t487, .int .i64 t488] 27 (0, 0)) (bq1 BK490 NB490_508) hb); replace BK494 := asd (blk_below (g := gb494) (o := .cells #[.int .i64 t491, .int .i64 t492] 27 (0, 0)) (bq1 BK494 NB494_508) hb); replace BK501 := asd (blk_below (g := gb501) (o := .cells #[.int .i64 t496, .int .i64 t497, .int .i64 t498, .int .i64 t499] 25 (0, 0)) (bq1 BK501 NB501_508) hb); replace BK508 := asd (blk_below (g := gb508) (o := .cells #[.int .i64 t503, .int .i64 t504, .int .i64 t505, .int .i64 t506] 25 (0, 0)) (bq0 BK508) hb); replace HB := asd (below_step (by repeat (first | (with_reducible first | exact HB.out | apply below_alloc | apply pw_below_drewN | apply below_drew1 | refine below_set ?_ GE486.out | refine below_set ?_ GE490.out | refine below_set ?_ GE494.out | refine below_set ?_ GE501.out | refine below_set ?_ GE508.out) | exact HB.out)) hb); (try clear hb)) | ((with_reducible refine gd 14 rfl ?_); refine bx #[.int .i64 0, .int .i64 0, .int .i64 0, .int .i64 0] 25 ?_; intro gb514 hg w43 BK514 hb; have GW514 := asd ((by rw [hg]; exact (below_size (by repeat (first | (with_reducible first | exact HB.out | apply below_alloc | apply pw_below_drewN | apply below_drew1 | refine below_set ?_ GE486.out | refine below_set ?_ GE490.out | refine below_set ?_ GE494.out | refine below_set ?_ GE501.out | refine below_set ?_ GE508.out) | exact HB.out))) : w.heap.size ≤ gb514)); have GE514 := asd ((by rw [hg]; exact (below_size (by repeat (first | (with_reducible first | exact HB.out | apply below_alloc | apply pw_below_drewN | apply below_drew1 | refine below_set ?_ GE486.out | refine below_set ?_ GE490.out | refine below_set ?_ GE494.out | refine below_set ?_ GE501.out | refine below_set ?_ GE508.out) | exact HB.out))) : w.heap.size ≤ gb514)); replace HB := asd (below_step (by repeat (first | (with_reducible first | exact HB.out | apply below_alloc | apply pw_below_drewN | apply below_drew1 | refine below_set ?_ GE486.out | refine below_set ?_ GE490.out | refine below_set ?_ GE494.out | refine below_set ?_ GE501.out | refine below_set ?_ GE508.out) | exact HB.out)) hb); have NB486_514 := nlt hg BK486; have NB514_486 := nsy (nlt hg BK486); replace BK486 := bB BK486 hb; have NB490_514 := nlt hg BK490; have NB514_490 := nsy (nlt hg BK490); replace BK490 := bB BK490 hb; have NB494_514 := nlt hg BK494; have NB514_494 := nsy (nlt hg BK494); replace BK494 := bB BK494 hb; have NB501_514 := nlt hg BK501; have NB514_501 := nsy (nlt hg BK501); replace BK501 := bB BK501 hb; have NB508_514 := nlt hg BK508; have NB514_508 := nsy (nlt hg BK508); replace BK508 := bB BK508 hb; clear hb hg; have hnb44 := NB514_486.out; have hnc44 := NB486_514.out; have hnb45 := NB514_490.out; have hnc45 := NB490_514.out; have hnb46 := NB514_494.out; have hnc46 := NB494_514.out; have hnb47 := NB514_501.out; have hnc47 := NB501_514.out; have hnb48 := NB514_508.out; have hnc48 := NB508_514.out; obtain ⟨hcz49_0, hcz49_1, hcz49_2, hcz49_3, hfz49_0, hfz49_1, hfz49_2, hfz49_3⟩ := bz4 BK514))
  (try simp only [Act.put, sA, sB, sC])
  go_cut [99] (fun v99 wc => ∃ (kq : Nat) (x99_11 : Bool), v99 = .bool x99_11 ∧ Aside0 (laws_FnAxes.j0 kq t489 x99_11 t482 t483 t484 t485 t487 t488 = some true) ∧ Aside0 (kq ≤ k) ∧ Aside0 (wc.heap[gb486]? = some (.cells #[.int .i64 t482, .int .i64 t483, .int .i64 t484, .int .i64 t485] 25 (0, 0))) ∧ Aside0 (wc.heap[gb490]? = some (.cells #[.int .i64 t487, .int .i64 t488] 27 (0, 0))) ∧ Aside0 (wc.heap[gb494]? = some (.cells #[.int .i64 t491, .int .i64 t492] 27 (0, 0))) ∧ Aside0 (wc.heap[gb501]? = some (.cells #[.int .i64 t496, .int .i64 t497, .int .i64 t498, .int .i64 t499] 25 (0, 0))) ∧ Aside0 (wc.heap[gb508]? = some (.cells #[.int .i64 t503, .int .i64 t504, .int .i64 t505, .int .i64 t506] 25 (0, 0))) ∧ Aside0 (wc.heap[gb514]? = some (.cells #[.int .i64 t509, .int .i64 t510, .int .i64 t511, .int .i64 t512] 25 (0, 0))) ∧ Aside0 (Below w.heap.size w wc))
  case first =>
   have H := HC12.out
   clear HC12
   by_cases c50 : t489 = t493
   ·rw [if_pos c50] at H
    have c50b0 : (t489 == t493) = true := beq_iff_eq.mpr c50
    have c50b1 : (t489 != t493) = false := bne_eq_false_iff_eq.mpr c50
    clear c50
    (first | rw [c50b0] | (simp only [i64_w, i32_w]; rw [c50b0]) | skip)
    by_cases c51 : (!(t487 == t491) || (!(t488 == t492))) = true
    ·rw [if_pos c51] at H
     have c51b0 := c51
     clear c51
     exact absurd H (laws_FnAxes.j0_dead _ _ _ _ _ _ _ _)
    ·rw [if_neg c51] at H
     have c51b0 : (!(t487 == t491) || (!(t488 == t492))) = false := by simpa using c51
     clear c51
     obtain ⟨t515, A63, H⟩ := ob H
     try dsimp only at H
     by_cases c64 : t495.toList = t515.toList
     ·rw [if_pos c64] at H
      have c64b0 : (t495.toList == t515.toList) = true := beq_iff_eq.mpr c64
      have c64b1 : (t495.toList != t515.toList) = false := bne_eq_false_iff_eq.mpr c64
      clear c64
      by_cases c65 : (t500 != (t495.toList != ([] : List UInt8))) = true
      ·rw [if_pos c65] at H
       have c65b0 := c65
       (try (have c65b1 : decide (t500 = (t495.toList != ([] : List UInt8))) = false := by simpa using c65))
       (try (have c65b2 : (t500 == (t495.toList != ([] : List UInt8))) = false := by simpa using c65))
       (try (have c65b3 : ¬ (t500 = (t495.toList != ([] : List UInt8))) := by simpa using c65))
       clear c65
       exact absurd H (laws_FnAxes.j0_dead _ _ _ _ _ _ _ _)
      ·rw [if_neg c65] at H
       have c65b0 : (t500 != (t495.toList != ([] : List UInt8))) = false := by simpa using c65
       (try (have c65b1 : decide (t500 = (t495.toList != ([] : List UInt8))) = true := by simpa using c65))
       (try (have c65b2 : (t500 == (t495.toList != ([] : List UInt8))) = true := by simpa using c65))
       clear c65
       by_cases c82 : t500 = true
       ·subst c82
        have c65z0 : (t495.toList != ([] : List UInt8)) = true := by revert c65b0; generalize (t495.toList != ([] : List UInt8)) = b_; cases b_ <;> simp
        have c65z1 : (t495.toList == ([] : List UInt8)) = false := by rw [beq_eq_false_iff_ne]; exact bne_iff_ne.mp c65z0
        have c65z2 : (t495.toList = ([] : List UInt8)) = False := eq_false (bne_iff_ne.mp c65z0)
        replace H := ifT H
        by_cases c83 : (!(t496 == t482) || (!(t497 == t483) || (!(t498 == t484) || (!(t499 == t485))))) = true
        ·rw [if_pos c83] at H
         have c83b0 := c83
         clear c83
         exact absurd H (laws_FnAxes.j0_dead _ _ _ _ _ _ _ _)
        ·rw [if_neg c83] at H
         have c83b0 : (!(t496 == t482) || (!(t497 == t483) || (!(t498 == t484) || (!(t499 == t485))))) = false := by simpa using c83
         clear c83
         by_cases c104 : (!(t503 == t509) || (!(t504 == t510) || (!(t505 == t511) || (!(t506 == t512))))) = true
         ·rw [if_pos c104] at H
          have c104b0 := c104
          clear c104
          exact absurd H (laws_FnAxes.j0_dead _ _ _ _ _ _ _ _)
         ·rw [if_neg c104] at H
          have c104b0 : (!(t503 == t509) || (!(t504 == t510) || (!(t505 == t511) || (!(t506 == t512))))) = false := by simpa using c104
          clear c104
          by_cases c128 : (t507 != t513) = true
          ·rw [if_pos c128] at H
           have c128b0 := c128
           (try (have c128b1 : decide (t507 = t513) = false := by simpa using c128))
           (try (have c128b2 : (t507 == t513) = false := by simpa using c128))
           (try (have c128b3 : ¬ (t507 = t513) := by simpa using c128))
           clear c128
           exact absurd H (laws_FnAxes.j0_dead _ _ _ _ _ _ _ _)
          ·rw [if_neg c128] at H
           have c128b0 : (t507 != t513) = false := by simpa using c128
           (try (have c128b1 : decide (t507 = t513) = true := by simpa using c128))
           (try (have c128b2 : (t507 == t513) = true := by simpa using c128))
           clear c128
           by_cases c152 : t507 = true
           ·subst c152
            replace H := ifT H
            obtain ⟨t516, A153, H⟩ := ob H
            try dsimp only at H
            have H' := Aside0.mk H
            clear H
            have hnb154 := NB490_486.out
            have hnc154 := NB486_490.out
            have hnb155 := NB490_494.out
            have hnc155 := NB494_490.out
            have hnb156 := NB490_501.out
            have hnc156 := NB501_490.out
            have hnb157 := NB490_508.out
            have hnc157 := NB508_490.out
            have hnb158 := NB490_514.out
            have hnc158 := NB514_490.out
            obtain ⟨hcz159_0, hcz159_1, hfz159_0, hfz159_1⟩ := bz2 BK490
            have hnb160 := NB494_486.out
            have hnc160 := NB486_494.out
            have hnb161 := NB494_501.out
            have hnc161 := NB501_494.out
            have hnb162 := NB494_508.out
            have hnc162 := NB508_494.out
            have hnb163 := NB494_514.out
            have hnc163 := NB514_494.out
            obtain ⟨hcz164_0, hcz164_1, hfz164_0, hfz164_1⟩ := bz2 BK494
            have hnb165 := NB486_501.out
            have hnc165 := NB501_486.out
            have hnb166 := NB486_508.out
            have hnc166 := NB508_486.out
            have hnb167 := NB486_514.out
            have hnc167 := NB514_486.out
            obtain ⟨hcz168_0, hcz168_1, hcz168_2, hcz168_3, hfz168_0, hfz168_1, hfz168_2, hfz168_3⟩ := bz4 BK486
            go_wp2_with (first | (go_at_call 22; (with_reducible refine (spec_MatText.calls _ _ _ _ _ _ _ A63.out).mono ?_); rintro e w169 ⟨rfl, hb⟩; replace BK486 := asd (blk_below (g := gb486) (o := .cells #[.int .i64 t482, .int .i64 t483, .int .i64 t484, .int .i64 t485] 25 (0, 0)) (bq1 BK486 NB486_514) hb); replace BK490 := asd (blk_below (g := gb490) (o := .cells #[.int .i64 t487, .int .i64 t488] 27 (0, 0)) (bq1 BK490 NB490_514) hb); replace BK494 := asd (blk_below (g := gb494) (o := .cells #[.int .i64 t491, .int .i64 t492] 27 (0, 0)) (bq1 BK494 NB494_514) hb); replace BK501 := asd (blk_below (g := gb501) (o := .cells #[.int .i64 t496, .int .i64 t497, .int .i64 t498, .int .i64 t499] 25 (0, 0)) (bq1 BK501 NB501_514) hb); replace BK508 := asd (blk_below (g := gb508) (o := .cells #[.int .i64 t503, .int .i64 t504, .int .i64 t505, .int .i64 t506] 25 (0, 0)) (bq1 BK508 NB508_514) hb); replace BK514 := asd (blk_below (g := gb514) (o := .cells #[.int .i64 t509, .int .i64 t510, .int .i64 t511, .int .i64 t512] 25 (0, 0)) (bq0 BK514) hb); replace HB := asd (below_step (by repeat (first | (with_reducible first | exact HB.out | apply below_alloc | apply pw_below_drewN | apply below_drew1 | refine below_set ?_ GE486.out | refine below_set ?_ GE490.out | refine below_set ?_ GE494.out | refine below_set ?_ GE501.out | refine below_set ?_ GE508.out | refine below_set ?_ GE514.out) | exact HB.out)) hb); (try clear hb); have hnb170 := NB501_508.out; have hnc170 := NB508_501.out; have hnb171 := NB501_514.out; have hnc171 := NB514_501.out; obtain ⟨hcz172_0, hcz172_1, hcz172_2, hcz172_3, hfz172_0, hfz172_1, hfz172_2, hfz172_3⟩ := bz4 BK501; obtain ⟨hcz173_0, hcz173_1, hcz173_2, hcz173_3, hfz173_0, hfz173_1, hfz173_2, hfz173_3⟩ := bz4 BK486; have hnb174 := NB508_514.out; have hnc174 := NB514_508.out; obtain ⟨hcz175_0, hcz175_1, hcz175_2, hcz175_3, hfz175_0, hfz175_1, hfz175_2, hfz175_3⟩ := bz4 BK508; obtain ⟨hcz176_0, hcz176_1, hcz176_2, hcz176_3, hfz176_0, hfz176_1, hfz176_2, hfz176_3⟩ := bz4 BK514) | (go_at_call 18; (with_reducible refine (impl_MatText.calls _ _ _ _ _ _ _ (texts.tabB HTAB.out (by repeat (first | (with_reducible first | exact HB.out | exact Below.refl _ _ | apply below_alloc | apply pw_below_drewN | apply below_drew1 | refine below_set ?_ GE486.out | refine below_set ?_ GE490.out | refine below_set ?_ GE494.out | refine below_set ?_ GE501.out | refine below_set ?_ GE508.out | refine below_set ?_ GE514.out | refine below_set ?_ GE521.out) | exact HB.out))) A153.out).mono ?_); rintro e w177 ⟨rfl, hb⟩; replace BK486 := bB BK486 hb; replace BK490 := bB BK490 hb; replace BK494 := bB BK494 hb; replace BK501 := bB BK501 hb; replace BK508 := bB BK508 hb; replace BK514 := bB BK514 hb; replace HB := asd (below_step (by repeat (first | (with_reducible first | exact HB.out | apply below_alloc | apply pw_below_drewN | apply below_drew1 | refine below_set ?_ GE486.out | refine below_set ?_ GE490.out | refine below_set ?_ GE494.out | refine below_set ?_ GE501.out | refine below_set ?_ GE508.out | refine below_set ?_ GE514.out) | exact HB.out)) hb); (try clear hb)))
            go_meet
            case rel => exact ⟨_, ((t516.toList != t502.toList)), (by first | rfl | (simp; done) | (simp [*]; done)), H', ⟨by first | omega | exact Nat.le_refl _⟩, ⟨bkp BK486⟩, ⟨bkp BK490⟩, ⟨bkp BK494⟩, ⟨bkp BK501⟩, ⟨bkp BK508⟩, ⟨bkp BK514⟩, ⟨by repeat (first | (with_reducible first | exact HB.out | apply below_alloc | apply pw_below_drewN | apply below_drew1 | refine below_set ?_ GE486.out | refine below_set ?_ GE490.out | refine below_set ?_ GE494.out | refine below_set ?_ GE501.out | refine below_set ?_ GE508.out | refine below_set ?_ GE514.out) | exact HB.out)⟩⟩
           ·replace c152 := Bool.eq_false_iff.mpr c152
            subst c152
            replace H := ifF H
            have H' := Aside0.mk H
            clear H
            have hnb178 := NB490_486.out
            have hnc178 := NB486_490.out
            have hnb179 := NB490_494.out
            have hnc179 := NB494_490.out
            have hnb180 := NB490_501.out
            have hnc180 := NB501_490.out
            have hnb181 := NB490_508.out
            have hnc181 := NB508_490.out
            have hnb182 := NB490_514.out
            have hnc182 := NB514_490.out
            obtain ⟨hcz183_0, hcz183_1, hfz183_0, hfz183_1⟩ := bz2 BK490
            have hnb184 := NB494_486.out
            have hnc184 := NB486_494.out
            have hnb185 := NB494_501.out
            have hnc185 := NB501_494.out
            have hnb186 := NB494_508.out
            have hnc186 := NB508_494.out
            have hnb187 := NB494_514.out
            have hnc187 := NB514_494.out
            obtain ⟨hcz188_0, hcz188_1, hfz188_0, hfz188_1⟩ := bz2 BK494
            have hnb189 := NB486_501.out
            have hnc189 := NB501_486.out
            have hnb190 := NB486_508.out
            have hnc190 := NB508_486.out
            have hnb191 := NB486_514.out
            have hnc191 := NB514_486.out
            obtain ⟨hcz192_0, hcz192_1, hcz192_2, hcz192_3, hfz192_0, hfz192_1, hfz192_2, hfz192_3⟩ := bz4 BK486
            go_wp2_with (first | (go_at_call 22; (with_reducible refine (spec_MatText.calls _ _ _ _ _ _ _ A63.out).mono ?_); rintro e w193 ⟨rfl, hb⟩; replace BK486 := asd (blk_below (g := gb486) (o := .cells #[.int .i64 t482, .int .i64 t483, .int .i64 t484, .int .i64 t485] 25 (0, 0)) (bq1 BK486 NB486_514) hb); replace BK490 := asd (blk_below (g := gb490) (o := .cells #[.int .i64 t487, .int .i64 t488] 27 (0, 0)) (bq1 BK490 NB490_514) hb); replace BK494 := asd (blk_below (g := gb494) (o := .cells #[.int .i64 t491, .int .i64 t492] 27 (0, 0)) (bq1 BK494 NB494_514) hb); replace BK501 := asd (blk_below (g := gb501) (o := .cells #[.int .i64 t496, .int .i64 t497, .int .i64 t498, .int .i64 t499] 25 (0, 0)) (bq1 BK501 NB501_514) hb); replace BK508 := asd (blk_below (g := gb508) (o := .cells #[.int .i64 t503, .int .i64 t504, .int .i64 t505, .int .i64 t506] 25 (0, 0)) (bq1 BK508 NB508_514) hb); replace BK514 := asd (blk_below (g := gb514) (o := .cells #[.int .i64 t509, .int .i64 t510, .int .i64 t511, .int .i64 t512] 25 (0, 0)) (bq0 BK514) hb); replace HB := asd (below_step (by repeat (first | (with_reducible first | exact HB.out | apply below_alloc | apply pw_below_drewN | apply below_drew1 | refine below_set ?_ GE486.out | refine below_set ?_ GE490.out | refine below_set ?_ GE494.out | refine below_set ?_ GE501.out | refine below_set ?_ GE508.out | refine below_set ?_ GE514.out) | exact HB.out)) hb); (try clear hb); have hnb194 := NB501_508.out; have hnc194 := NB508_501.out; have hnb195 := NB501_514.out; have hnc195 := NB514_501.out; obtain ⟨hcz196_0, hcz196_1, hcz196_2, hcz196_3, hfz196_0, hfz196_1, hfz196_2, hfz196_3⟩ := bz4 BK501; obtain ⟨hcz197_0, hcz197_1, hcz197_2, hcz197_3, hfz197_0, hfz197_1, hfz197_2, hfz197_3⟩ := bz4 BK486; have hnb198 := NB508_514.out; have hnc198 := NB514_508.out; obtain ⟨hcz199_0, hcz199_1, hcz199_2, hcz199_3, hfz199_0, hfz199_1, hfz199_2, hfz199_3⟩ := bz4 BK508; obtain ⟨hcz200_0, hcz200_1, hcz200_2, hcz200_3, hfz200_0, hfz200_1, hfz200_2, hfz200_3⟩ := bz4 BK514))
            go_meet
            case rel => exact ⟨_, (false), (by first | rfl | (simp; done) | (simp [*]; done)), H', ⟨by first | omega | exact Nat.le_refl _⟩, ⟨bkp BK486⟩, ⟨bkp BK490⟩, ⟨bkp BK494⟩, ⟨bkp BK501⟩, ⟨bkp BK508⟩, ⟨bkp BK514⟩, ⟨by repeat (first | (with_reducible first | exact HB.out | apply below_alloc | apply pw_below_drewN | apply below_drew1 | refine below_set ?_ GE486.out | refine below_set ?_ GE490.out | refine below_set ?_ GE494.out | refine below_set ?_ GE501.out | refine below_set ?_ GE508.out | refine below_set ?_ GE514.out) | exact HB.out)⟩⟩
       ·replace c82 := Bool.eq_false_iff.mpr c82
        subst c82
        have c65z0 : (t495.toList != ([] : List UInt8)) = false := by revert c65b0; generalize (t495.toList != ([] : List UInt8)) = b_; cases b_ <;> simp
        have c65z1 : (t495.toList == ([] : List UInt8)) = true := by rw [beq_iff_eq]; exact bne_eq_false_iff_eq.mp c65z0
        have c65z2 : (t495.toList = ([] : List UInt8)) = True := eq_true (bne_eq_false_iff_eq.mp c65z0)
        replace H := ifF H
        by_cases c201 : (!(t503 == t509) || (!(t504 == t510) || (!(t505 == t511) || (!(t506 == t512))))) = true
        ·rw [if_pos c201] at H
         have c201b0 := c201
         clear c201
         exact absurd H (laws_FnAxes.j0_dead _ _ _ _ _ _ _ _)
        ·rw [if_neg c201] at H
         have c201b0 : (!(t503 == t509) || (!(t504 == t510) || (!(t505 == t511) || (!(t506 == t512))))) = false := by simpa using c201
         clear c201
         by_cases c223 : (t507 != t513) = true
         ·rw [if_pos c223] at H
          have c223b0 := c223
          (try (have c223b1 : decide (t507 = t513) = false := by simpa using c223))
          (try (have c223b2 : (t507 == t513) = false := by simpa using c223))
          (try (have c223b3 : ¬ (t507 = t513) := by simpa using c223))
          clear c223
          exact absurd H (laws_FnAxes.j0_dead _ _ _ _ _ _ _ _)
         ·rw [if_neg c223] at H
          have c223b0 : (t507 != t513) = false := by simpa using c223
          (try (have c223b1 : decide (t507 = t513) = true := by simpa using c223))
          (try (have c223b2 : (t507 == t513) = true := by simpa using c223))
          clear c223
          by_cases c245 : t507 = true
          ·subst c245
           replace H := ifT H
           obtain ⟨t517, A246, H⟩ := ob H
           try dsimp only at H
           have H' := Aside0.mk H
           clear H
           have hnb247 := NB490_486.out
           have hnc247 := NB486_490.out
           have hnb248 := NB490_494.out
           have hnc248 := NB494_490.out
           have hnb249 := NB490_501.out
           have hnc249 := NB501_490.out
           have hnb250 := NB490_508.out
           have hnc250 := NB508_490.out
           have hnb251 := NB490_514.out
           have hnc251 := NB514_490.out
           obtain ⟨hcz252_0, hcz252_1, hfz252_0, hfz252_1⟩ := bz2 BK490
           have hnb253 := NB494_486.out
           have hnc253 := NB486_494.out
           have hnb254 := NB494_501.out
           have hnc254 := NB501_494.out
           have hnb255 := NB494_508.out
           have hnc255 := NB508_494.out
           have hnb256 := NB494_514.out
           have hnc256 := NB514_494.out
           obtain ⟨hcz257_0, hcz257_1, hfz257_0, hfz257_1⟩ := bz2 BK494
           have hnb258 := NB486_501.out
           have hnc258 := NB501_486.out
           have hnb259 := NB486_508.out
           have hnc259 := NB508_486.out
           have hnb260 := NB486_514.out
           have hnc260 := NB514_486.out
           obtain ⟨hcz261_0, hcz261_1, hcz261_2, hcz261_3, hfz261_0, hfz261_1, hfz261_2, hfz261_3⟩ := bz4 BK486
           go_wp2_with (first | (go_at_call 22; (with_reducible refine (spec_MatText.calls _ _ _ _ _ _ _ A63.out).mono ?_); rintro e w262 ⟨rfl, hb⟩; replace BK486 := asd (blk_below (g := gb486) (o := .cells #[.int .i64 t482, .int .i64 t483, .int .i64 t484, .int .i64 t485] 25 (0, 0)) (bq1 BK486 NB486_514) hb); replace BK490 := asd (blk_below (g := gb490) (o := .cells #[.int .i64 t487, .int .i64 t488] 27 (0, 0)) (bq1 BK490 NB490_514) hb); replace BK494 := asd (blk_below (g := gb494) (o := .cells #[.int .i64 t491, .int .i64 t492] 27 (0, 0)) (bq1 BK494 NB494_514) hb); replace BK501 := asd (blk_below (g := gb501) (o := .cells #[.int .i64 t496, .int .i64 t497, .int .i64 t498, .int .i64 t499] 25 (0, 0)) (bq1 BK501 NB501_514) hb); replace BK508 := asd (blk_below (g := gb508) (o := .cells #[.int .i64 t503, .int .i64 t504, .int .i64 t505, .int .i64 t506] 25 (0, 0)) (bq1 BK508 NB508_514) hb); replace BK514 := asd (blk_below (g := gb514) (o := .cells #[.int .i64 t509, .int .i64 t510, .int .i64 t511, .int .i64 t512] 25 (0, 0)) (bq0 BK514) hb); replace HB := asd (below_step (by repeat (first | (with_reducible first | exact HB.out | apply below_alloc | apply pw_below_drewN | apply below_drew1 | refine below_set ?_ GE486.out | refine below_set ?_ GE490.out | refine below_set ?_ GE494.out | refine below_set ?_ GE501.out | refine below_set ?_ GE508.out | refine below_set ?_ GE514.out) | exact HB.out)) hb); (try clear hb); have hnb263 := NB508_501.out; have hnc263 := NB501_508.out; have hnb264 := NB508_514.out; have hnc264 := NB514_508.out; obtain ⟨hcz265_0, hcz265_1, hcz265_2, hcz265_3, hfz265_0, hfz265_1, hfz265_2, hfz265_3⟩ := bz4 BK508; have hnb266 := NB514_501.out; have hnc266 := NB501_514.out; obtain ⟨hcz267_0, hcz267_1, hcz267_2, hcz267_3, hfz267_0, hfz267_1, hfz267_2, hfz267_3⟩ := bz4 BK514) | (go_at_call 18; (with_reducible refine (impl_MatText.calls _ _ _ _ _ _ _ (texts.tabB HTAB.out (by repeat (first | (with_reducible first | exact HB.out | exact Below.refl _ _ | apply below_alloc | apply pw_below_drewN | apply below_drew1 | refine below_set ?_ GE486.out | refine below_set ?_ GE490.out | refine below_set ?_ GE494.out | refine below_set ?_ GE501.out | refine below_set ?_ GE508.out | refine below_set ?_ GE514.out | refine below_set ?_ GE521.out) | exact HB.out))) A246.out).mono ?_); rintro e w268 ⟨rfl, hb⟩; replace BK486 := bB BK486 hb; replace BK490 := bB BK490 hb; replace BK494 := bB BK494 hb; replace BK501 := bB BK501 hb; replace BK508 := bB BK508 hb; replace BK514 := bB BK514 hb; replace HB := asd (below_step (by repeat (first | (with_reducible first | exact HB.out | apply below_alloc | apply pw_below_drewN | apply below_drew1 | refine below_set ?_ GE486.out | refine below_set ?_ GE490.out | refine below_set ?_ GE494.out | refine below_set ?_ GE501.out | refine below_set ?_ GE508.out | refine below_set ?_ GE514.out) | exact HB.out)) hb); (try clear hb)))
           go_meet
           case rel => exact ⟨_, ((t517.toList != t502.toList)), (by first | rfl | (simp; done) | (simp [*]; done)), H', ⟨by first | omega | exact Nat.le_refl _⟩, ⟨bkp BK486⟩, ⟨bkp BK490⟩, ⟨bkp BK494⟩, ⟨bkp BK501⟩, ⟨bkp BK508⟩, ⟨bkp BK514⟩, ⟨by repeat (first | (with_reducible first | exact HB.out | apply below_alloc | apply pw_below_drewN | apply below_drew1 | refine below_set ?_ GE486.out | refine below_set ?_ GE490.out | refine below_set ?_ GE494.out | refine below_set ?_ GE501.out | refine below_set ?_ GE508.out | refine below_set ?_ GE514.out) | exact HB.out)⟩⟩
          ·replace c245 := Bool.eq_false_iff.mpr c245
           subst c245
           replace H := ifF H
           have H' := Aside0.mk H
           clear H
           have hnb269 := NB490_486.out
           have hnc269 := NB486_490.out
           have hnb270 := NB490_494.out
           have hnc270 := NB494_490.out
           have hnb271 := NB490_501.out
           have hnc271 := NB501_490.out
           have hnb272 := NB490_508.out
           have hnc272 := NB508_490.out
           have hnb273 := NB490_514.out
           have hnc273 := NB514_490.out
           obtain ⟨hcz274_0, hcz274_1, hfz274_0, hfz274_1⟩ := bz2 BK490
           have hnb275 := NB494_486.out
           have hnc275 := NB486_494.out
           have hnb276 := NB494_501.out
           have hnc276 := NB501_494.out
           have hnb277 := NB494_508.out
           have hnc277 := NB508_494.out
           have hnb278 := NB494_514.out
           have hnc278 := NB514_494.out
           obtain ⟨hcz279_0, hcz279_1, hfz279_0, hfz279_1⟩ := bz2 BK494
           have hnb280 := NB486_501.out
           have hnc280 := NB501_486.out
           have hnb281 := NB486_508.out
           have hnc281 := NB508_486.out
           have hnb282 := NB486_514.out
           have hnc282 := NB514_486.out
           obtain ⟨hcz283_0, hcz283_1, hcz283_2, hcz283_3, hfz283_0, hfz283_1, hfz283_2, hfz283_3⟩ := bz4 BK486
           go_wp2_with (first | (go_at_call 22; (with_reducible refine (spec_MatText.calls _ _ _ _ _ _ _ A63.out).mono ?_); rintro e w284 ⟨rfl, hb⟩; replace BK486 := asd (blk_below (g := gb486) (o := .cells #[.int .i64 t482, .int .i64 t483, .int .i64 t484, .int .i64 t485] 25 (0, 0)) (bq1 BK486 NB486_514) hb); replace BK490 := asd (blk_below (g := gb490) (o := .cells #[.int .i64 t487, .int .i64 t488] 27 (0, 0)) (bq1 BK490 NB490_514) hb); replace BK494 := asd (blk_below (g := gb494) (o := .cells #[.int .i64 t491, .int .i64 t492] 27 (0, 0)) (bq1 BK494 NB494_514) hb); replace BK501 := asd (blk_below (g := gb501) (o := .cells #[.int .i64 t496, .int .i64 t497, .int .i64 t498, .int .i64 t499] 25 (0, 0)) (bq1 BK501 NB501_514) hb); replace BK508 := asd (blk_below (g := gb508) (o := .cells #[.int .i64 t503, .int .i64 t504, .int .i64 t505, .int .i64 t506] 25 (0, 0)) (bq1 BK508 NB508_514) hb); replace BK514 := asd (blk_below (g := gb514) (o := .cells #[.int .i64 t509, .int .i64 t510, .int .i64 t511, .int .i64 t512] 25 (0, 0)) (bq0 BK514) hb); replace HB := asd (below_step (by repeat (first | (with_reducible first | exact HB.out | apply below_alloc | apply pw_below_drewN | apply below_drew1 | refine below_set ?_ GE486.out | refine below_set ?_ GE490.out | refine below_set ?_ GE494.out | refine below_set ?_ GE501.out | refine below_set ?_ GE508.out | refine below_set ?_ GE514.out) | exact HB.out)) hb); (try clear hb); have hnb285 := NB508_501.out; have hnc285 := NB501_508.out; have hnb286 := NB508_514.out; have hnc286 := NB514_508.out; obtain ⟨hcz287_0, hcz287_1, hcz287_2, hcz287_3, hfz287_0, hfz287_1, hfz287_2, hfz287_3⟩ := bz4 BK508; have hnb288 := NB514_501.out; have hnc288 := NB501_514.out; obtain ⟨hcz289_0, hcz289_1, hcz289_2, hcz289_3, hfz289_0, hfz289_1, hfz289_2, hfz289_3⟩ := bz4 BK514))
           go_meet
           case rel => exact ⟨_, (false), (by first | rfl | (simp; done) | (simp [*]; done)), H', ⟨by first | omega | exact Nat.le_refl _⟩, ⟨bkp BK486⟩, ⟨bkp BK490⟩, ⟨bkp BK494⟩, ⟨bkp BK501⟩, ⟨bkp BK508⟩, ⟨bkp BK514⟩, ⟨by repeat (first | (with_reducible first | exact HB.out | apply below_alloc | apply pw_below_drewN | apply below_drew1 | refine below_set ?_ GE486.out | refine below_set ?_ GE490.out | refine below_set ?_ GE494.out | refine below_set ?_ GE501.out | refine below_set ?_ GE508.out | refine below_set ?_ GE514.out) | exact HB.out)⟩⟩
     ·rw [if_neg c64] at H
      have c64b0 : (t495.toList == t515.toList) = false := beq_eq_false_iff_ne.mpr c64
      have c64b1 : (t495.toList != t515.toList) = true := bne_iff_ne.mpr c64
      exact absurd H (laws_FnAxes.j0_dead _ _ _ _ _ _ _ _)
   ·rw [if_neg c50] at H
    have c50b0 : (t489 == t493) = false := beq_eq_false_iff_ne.mpr c50
    have c50b1 : (t489 != t493) = true := bne_iff_ne.mpr c50
    (first | rw [c50b0] | (simp only [i64_w, i32_w]; rw [c50b0]) | skip)
    exact absurd H (laws_FnAxes.j0_dead _ _ _ _ _ _ _ _)
  case rest =>
   clear HC12
   try clear c1
   try clear c2
   try clear p2
   try clear c3
   try clear c5
   try clear c6
   try clear c7
   try clear c8
   try clear c9
   try clear c10
   try clear c11
   try clear c12
   try clear c13
   try clear c14
   try clear c15
   try clear c16
   try clear c17
   try clear c18
   try clear c19
   try clear c20
   try clear c21
   try clear c22
   try clear c23
   try clear c24
   try clear c25
   try clear c26
   try clear c27
   try clear c28
   try clear c29
   try clear c30
   try clear c50
   try clear c50b0
   try clear c50b1
   try clear c64
   try clear c64b0
   try clear c64b1
   try clear c65
   try clear c65b0
   try clear c65b1
   try clear c65b2
   try clear c67
   try clear c68
   try clear c69
   try clear c70
   try clear c72
   try clear c73
   try clear c74
   try clear c75
   try clear c77
   try clear c78
   try clear c79
   try clear c82
   try clear c83
   try clear c83b0
   try clear c84
   try clear c85
   try clear c86
   try clear c87
   try clear c88
   try clear c90
   try clear c91
   try clear c92
   try clear c93
   try clear c95
   try clear c96
   try clear c97
   try clear c100
   try clear c101
   try clear c104
   try clear c104b0
   try clear c105
   try clear c106
   try clear c107
   try clear c108
   try clear c109
   try clear c111
   try clear c112
   try clear c113
   try clear c114
   try clear c116
   try clear c117
   try clear c118
   try clear c121
   try clear c122
   try clear c125
   try clear c128
   try clear c128b0
   try clear c128b1
   try clear c128b2
   try clear c129
   try clear c130
   try clear c131
   try clear c132
   try clear c133
   try clear c135
   try clear c136
   try clear c137
   try clear c138
   try clear c140
   try clear c141
   try clear c142
   try clear c145
   try clear c146
   try clear c149
   try clear c152
   try clear c154
   try clear c155
   try clear c156
   try clear c157
   try clear c158
   try clear c160
   try clear c161
   try clear c162
   try clear c163
   try clear c165
   try clear c166
   try clear c167
   try clear c170
   try clear c171
   try clear c174
   try clear c178
   try clear c179
   try clear c180
   try clear c181
   try clear c182
   try clear c184
   try clear c185
   try clear c186
   try clear c187
   try clear c189
   try clear c190
   try clear c191
   try clear c194
   try clear c195
   try clear c198
   try clear c201
   try clear c201b0
   try clear c202
   try clear c203
   try clear c204
   try clear c205
   try clear c206
   try clear c208
   try clear c209
   try clear c210
   try clear c211
   try clear c213
   try clear c214
   try clear c215
   try clear c218
   try clear c219
   try clear c221
   try clear c223
   try clear c223b0
   try clear c223b1
   try clear c223b2
   try clear c224
   try clear c225
   try clear c226
   try clear c227
   try clear c228
   try clear c230
   try clear c231
   try clear c232
   try clear c233
   try clear c235
   try clear c236
   try clear c237
   try clear c240
   try clear c241
   try clear c243
   try clear c245
   try clear c247
   try clear c248
   try clear c249
   try clear c250
   try clear c251
   try clear c253
   try clear c254
   try clear c255
   try clear c256
   try clear c258
   try clear c259
   try clear c260
   try clear c263
   try clear c264
   try clear c266
   try clear c269
   try clear c270
   try clear c271
   try clear c272
   try clear c273
   try clear c275
   try clear c276
   try clear c277
   try clear c278
   try clear c280
   try clear c281
   try clear c282
   try clear c285
   try clear c286
   try clear c288
   try clear c290
   try clear c291
   try clear c292
   try clear c293
   try clear c294
   try clear c296
   try clear c297
   try clear c298
   try clear c299
   try clear c301
   try clear c302
   try clear c303
   try clear hcz102_0
   try clear hcz102_1
   try clear hcz102_2
   try clear hcz102_3
   try clear hcz103_0
   try clear hcz103_1
   try clear hcz103_2
   try clear hcz103_3
   try clear hcz110_0
   try clear hcz110_1
   try clear hcz115_0
   try clear hcz115_1
   try clear hcz119_0
   try clear hcz119_1
   try clear hcz119_2
   try clear hcz119_3
   try clear hcz123_0
   try clear hcz123_1
   try clear hcz123_2
   try clear hcz123_3
   try clear hcz124_0
   try clear hcz124_1
   try clear hcz124_2
   try clear hcz124_3
   try clear hcz126_0
   try clear hcz126_1
   try clear hcz126_2
   try clear hcz126_3
   try clear hcz127_0
   try clear hcz127_1
   try clear hcz127_2
   try clear hcz127_3
   try clear hcz134_0
   try clear hcz134_1
   try clear hcz139_0
   try clear hcz139_1
   try clear hcz143_0
   try clear hcz143_1
   try clear hcz143_2
   try clear hcz143_3
   try clear hcz147_0
   try clear hcz147_1
   try clear hcz147_2
   try clear hcz147_3
   try clear hcz148_0
   try clear hcz148_1
   try clear hcz148_2
   try clear hcz148_3
   try clear hcz150_0
   try clear hcz150_1
   try clear hcz150_2
   try clear hcz150_3
   try clear hcz151_0
   try clear hcz151_1
   try clear hcz151_2
   try clear hcz151_3
   try clear hcz159_0
   try clear hcz159_1
   try clear hcz164_0
   try clear hcz164_1
   try clear hcz168_0
   try clear hcz168_1
   try clear hcz168_2
   try clear hcz168_3
   try clear hcz172_0
   try clear hcz172_1
   try clear hcz172_2
   try clear hcz172_3
   try clear hcz173_0
   try clear hcz173_1
   try clear hcz173_2
   try clear hcz173_3
   try clear hcz175_0
   try clear hcz175_1
   try clear hcz175_2
   try clear hcz175_3
   try clear hcz176_0
   try clear hcz176_1
   try clear hcz176_2
   try clear hcz176_3
   try clear hcz183_0
   try clear hcz183_1
   try clear hcz188_0
   try clear hcz188_1
   try clear hcz192_0
   try clear hcz192_1
   try clear hcz192_2
   try clear hcz192_3
   try clear hcz196_0
   try clear hcz196_1
   try clear hcz196_2
   try clear hcz196_3
   try clear hcz197_0
   try clear hcz197_1
   try clear hcz197_2
   try clear hcz197_3
   try clear hcz199_0
   try clear hcz199_1
   try clear hcz199_2
   try clear hcz199_3
   try clear hcz200_0
   try clear hcz200_1
   try clear hcz200_2
   try clear hcz200_3
   try clear hcz207_0
   try clear hcz207_1
   try clear hcz212_0
   try clear hcz212_1
   try clear hcz216_0
   try clear hcz216_1
   try clear hcz216_2
   try clear hcz216_3
   try clear hcz220_0
   try clear hcz220_1
   try clear hcz220_2
   try clear hcz220_3
   try clear hcz222_0
   try clear hcz222_1
   try clear hcz222_2
   try clear hcz222_3
   try clear hcz229_0
   try clear hcz229_1
   try clear hcz234_0
   try clear hcz234_1
   try clear hcz238_0
   try clear hcz238_1
   try clear hcz238_2
   try clear hcz238_3
   try clear hcz242_0
   try clear hcz242_1
   try clear hcz242_2
   try clear hcz242_3
   try clear hcz244_0
   try clear hcz244_1
   try clear hcz244_2
   try clear hcz244_3
   try clear hcz252_0
   try clear hcz252_1
   try clear hcz257_0
   try clear hcz257_1
   try clear hcz261_0
   try clear hcz261_1
   try clear hcz261_2
   try clear hcz261_3
   try clear hcz265_0
   try clear hcz265_1
   try clear hcz265_2
   try clear hcz265_3
   try clear hcz267_0
   try clear hcz267_1
   try clear hcz267_2
   try clear hcz267_3
   try clear hcz274_0
   try clear hcz274_1
   try clear hcz279_0
   try clear hcz279_1
   try clear hcz283_0
   try clear hcz283_1
   try clear hcz283_2
   try clear hcz283_3
   try clear hcz287_0
   try clear hcz287_1
   try clear hcz287_2
   try clear hcz287_3
   try clear hcz289_0
   try clear hcz289_1
   try clear hcz289_2
   try clear hcz289_3
   try clear hcz295_0
   try clear hcz295_1
   try clear hcz300_0
   try clear hcz300_1
   try clear hcz304_0
   try clear hcz304_1
   try clear hcz304_2
   try clear hcz304_3
   try clear hcz71_0
   try clear hcz71_1
   try clear hcz76_0
   try clear hcz76_1
   try clear hcz80_0
   try clear hcz80_1
   try clear hcz80_2
   try clear hcz80_3
   try clear hcz89_0
   try clear hcz89_1
   try clear hcz94_0
   try clear hcz94_1
   try clear hcz98_0
   try clear hcz98_1
   try clear hcz98_2
   try clear hcz98_3
   try clear hfz102_0
   try clear hfz102_1
   try clear hfz102_2
   try clear hfz102_3
   try clear hfz103_0
   try clear hfz103_1
   try clear hfz103_2
   try clear hfz103_3
   try clear hfz110_0
   try clear hfz110_1
   try clear hfz115_0
   try clear hfz115_1
   try clear hfz119_0
   try clear hfz119_1
   try clear hfz119_2
   try clear hfz119_3
   try clear hfz123_0
   try clear hfz123_1
   try clear hfz123_2
   try clear hfz123_3
   try clear hfz124_0
   try clear hfz124_1
   try clear hfz124_2
   try clear hfz124_3
   try clear hfz126_0
   try clear hfz126_1
   try clear hfz126_2
   try clear hfz126_3
   try clear hfz127_0
   try clear hfz127_1
   try clear hfz127_2
   try clear hfz127_3
   try clear hfz134_0
   try clear hfz134_1
   try clear hfz139_0
   try clear hfz139_1
   try clear hfz143_0
   try clear hfz143_1
   try clear hfz143_2
   try clear hfz143_3
   try clear hfz147_0
   try clear hfz147_1
   try clear hfz147_2
   try clear hfz147_3
   try clear hfz148_0
   try clear hfz148_1
   try clear hfz148_2
   try clear hfz148_3
   try clear hfz150_0
   try clear hfz150_1
   try clear hfz150_2
   try clear hfz150_3
   try clear hfz151_0
   try clear hfz151_1
   try clear hfz151_2
   try clear hfz151_3
   try clear hfz159_0
   try clear hfz159_1
   try clear hfz164_0
   try clear hfz164_1
   try clear hfz168_0
   try clear hfz168_1
   try clear hfz168_2
   try clear hfz168_3
   try clear hfz172_0
   try clear hfz172_1
   try clear hfz172_2
   try clear hfz172_3
   try clear hfz173_0
   try clear hfz173_1
   try clear hfz173_2
   try clear hfz173_3
   try clear hfz175_0
   try clear hfz175_1
   try clear hfz175_2
   try clear hfz175_3
   try clear hfz176_0
   try clear hfz176_1
   try clear hfz176_2
   try clear hfz176_3
   try clear hfz183_0
   try clear hfz183_1
   try clear hfz188_0
   try clear hfz188_1
   try clear hfz192_0
   try clear hfz192_1
   try clear hfz192_2
   try clear hfz192_3
   try clear hfz196_0
   try clear hfz196_1
   try clear hfz196_2
   try clear hfz196_3
   try clear hfz197_0
   try clear hfz197_1
   try clear hfz197_2
   try clear hfz197_3
   try clear hfz199_0
   try clear hfz199_1
   try clear hfz199_2
   try clear hfz199_3
   try clear hfz200_0
   try clear hfz200_1
   try clear hfz200_2
   try clear hfz200_3
   try clear hfz207_0
   try clear hfz207_1
   try clear hfz212_0
   try clear hfz212_1
   try clear hfz216_0
   try clear hfz216_1
   try clear hfz216_2
   try clear hfz216_3
   try clear hfz220_0
   try clear hfz220_1
   try clear hfz220_2
   try clear hfz220_3
   try clear hfz222_0
   try clear hfz222_1
   try clear hfz222_2
   try clear hfz222_3
   try clear hfz229_0
   try clear hfz229_1
   try clear hfz234_0
   try clear hfz234_1
   try clear hfz238_0
   try clear hfz238_1
   try clear hfz238_2
   try clear hfz238_3
   try clear hfz242_0
   try clear hfz242_1
   try clear hfz242_2
   try clear hfz242_3
   try clear hfz244_0
   try clear hfz244_1
   try clear hfz244_2
   try clear hfz244_3
   try clear hfz252_0
   try clear hfz252_1
   try clear hfz257_0
   try clear hfz257_1
   try clear hfz261_0
   try clear hfz261_1
   try clear hfz261_2
   try clear hfz261_3
   try clear hfz265_0
   try clear hfz265_1
   try clear hfz265_2
   try clear hfz265_3
   try clear hfz267_0
   try clear hfz267_1
   try clear hfz267_2
   try clear hfz267_3
   try clear hfz274_0
   try clear hfz274_1
   try clear hfz279_0
   try clear hfz279_1
   try clear hfz283_0
   try clear hfz283_1
   try clear hfz283_2
   try clear hfz283_3
   try clear hfz287_0
   try clear hfz287_1
   try clear hfz287_2
   try clear hfz287_3
   try clear hfz289_0
   try clear hfz289_1
   try clear hfz289_2
   try clear hfz289_3
   try clear hfz295_0
   try clear hfz295_1
   try clear hfz300_0
   try clear hfz300_1
   try clear hfz304_0
   try clear hfz304_1
   try clear hfz304_2
   try clear hfz304_3
   try clear hfz71_0
   try clear hfz71_1
   try clear hfz76_0
   try clear hfz76_1
   try clear hfz80_0
   try clear hfz80_1
   try clear hfz80_2
   try clear hfz80_3
   try clear hfz89_0
   try clear hfz89_1
   try clear hfz94_0
   try clear hfz94_1
   try clear hfz98_0
   try clear hfz98_1
   try clear hfz98_2
   try clear hfz98_3
   obtain ⟨kq, x99_11, rfl, HA, HJ11, BK486, BK490, BK494, BK501, BK508, BK514, HB⟩ := hcut
   cases kq with
   | zero => exact absurd HA.out (by simp [laws_FnAxes.j0])
   | succ kj11 =>
    have H := HA.out
    clear HA
    simp only [laws_FnAxes.j0] at H
    by_cases c306 : x99_11 = true
    ·subst c306
     replace H := ifT H
     exact absurd H (by simp)
    ·replace c306 := Bool.eq_false_iff.mpr c306
     subst c306
     replace H := ifF H
     by_cases c307 : t489 = 0
     ·rw [if_pos c307] at H
      have c307b0 : (t489 == 0) = true := beq_iff_eq.mpr c307
      have c307b1 : (t489 != 0) = false := bne_eq_false_iff_eq.mpr c307
      clear c307
      obtain ⟨⟨t518, t519, t520⟩, A308, H⟩ := ob H
      try dsimp only at H
      obtain ⟨⟨t522, t523⟩, A309, H⟩ := ob H
      try dsimp only at H
      by_cases c310 : t520 = 3
      ·rw [if_pos c310] at H
       have c310b0 : (t520 == 3) = true := beq_iff_eq.mpr c310
       have c310b1 : (t520 != 3) = false := bne_eq_false_iff_eq.mpr c310
       clear c310
       by_cases c311 : t523 = 0
       ·rw [if_pos c311] at H
        have c311b0 : (t523 == 0) = true := beq_iff_eq.mpr c311
        have c311b1 : (t523 != 0) = false := bne_eq_false_iff_eq.mpr c311
        clear c311
        replace H := Option.some.inj H
        have hnb312 := NB486_490.out
        have hnc312 := NB490_486.out
        have hnb313 := NB486_494.out
        have hnc313 := NB494_486.out
        have hnb314 := NB486_501.out
        have hnc314 := NB501_486.out
        have hnb315 := NB486_508.out
        have hnc315 := NB508_486.out
        have hnb316 := NB486_514.out
        have hnc316 := NB514_486.out
        obtain ⟨hcz317_0, hcz317_1, hcz317_2, hcz317_3, hfz317_0, hfz317_1, hfz317_2, hfz317_3⟩ := bz4 BK486
        have hnb318 := NB490_494.out
        have hnc318 := NB494_490.out
        have hnb319 := NB490_501.out
        have hnc319 := NB501_490.out
        have hnb320 := NB490_508.out
        have hnc320 := NB508_490.out
        have hnb321 := NB490_514.out
        have hnc321 := NB514_490.out
        obtain ⟨hcz322_0, hcz322_1, hfz322_0, hfz322_1⟩ := bz2 BK490
        go_wp2_with (first | ((with_reducible refine gate_callee (f := 23) rfl ?_); refine gl 105 Tryz.func23 #[.agg #[.int .i64 t482, .int .i64 t483, .int .i64 t484, .int .i64 t485], .agg #[.int .i64 t487, .int .i64 t488]] ?_; (with_reducible refine (impl_ApplyMat.calls _ _ _ _ _ _ _ _ _ _ _ A308.out).mono ?_); rintro e w323 ⟨rfl, hb⟩; refine ⟨_, rfl, ?_⟩; replace BK486 := bB BK486 hb; replace BK490 := bB BK490 hb; replace BK494 := bB BK494 hb; replace BK501 := bB BK501 hb; replace BK508 := bB BK508 hb; replace BK514 := bB BK514 hb; replace HB := asd (below_step (by repeat (first | (with_reducible first | exact HB.out | apply below_alloc | apply pw_below_drewN | apply below_drew1 | refine below_set ?_ GE486.out | refine below_set ?_ GE490.out | refine below_set ?_ GE494.out | refine below_set ?_ GE501.out | refine below_set ?_ GE508.out | refine below_set ?_ GE514.out) | exact HB.out)) hb); (try clear hb)) | ((with_reducible refine gd 16 rfl ?_); refine bx #[.int .i64 0, .int .i64 0] 27 ?_; intro gb521 hg w324 BK521 hb; have GW521 := asd ((by rw [hg]; exact (below_size (by repeat (first | (with_reducible first | exact HB.out | apply below_alloc | apply pw_below_drewN | apply below_drew1 | refine below_set ?_ GE486.out | refine below_set ?_ GE490.out | refine below_set ?_ GE494.out | refine below_set ?_ GE501.out | refine below_set ?_ GE508.out | refine below_set ?_ GE514.out) | exact HB.out))) : w.heap.size ≤ gb521)); have GE521 := asd ((by rw [hg]; exact (below_size (by repeat (first | (with_reducible first | exact HB.out | apply below_alloc | apply pw_below_drewN | apply below_drew1 | refine below_set ?_ GE486.out | refine below_set ?_ GE490.out | refine below_set ?_ GE494.out | refine below_set ?_ GE501.out | refine below_set ?_ GE508.out | refine below_set ?_ GE514.out) | exact HB.out))) : w.heap.size ≤ gb521)); replace HB := asd (below_step (by repeat (first | (with_reducible first | exact HB.out | apply below_alloc | apply pw_below_drewN | apply below_drew1 | refine below_set ?_ GE486.out | refine below_set ?_ GE490.out | refine below_set ?_ GE494.out | refine below_set ?_ GE501.out | refine below_set ?_ GE508.out | refine below_set ?_ GE514.out) | exact HB.out)) hb); have NB486_521 := nlt hg BK486; have NB521_486 := nsy (nlt hg BK486); replace BK486 := bB BK486 hb; have NB490_521 := nlt hg BK490; have NB521_490 := nsy (nlt hg BK490); replace BK490 := bB BK490 hb; have NB494_521 := nlt hg BK494; have NB521_494 := nsy (nlt hg BK494); replace BK494 := bB BK494 hb; have NB501_521 := nlt hg BK501; have NB521_501 := nsy (nlt hg BK501); replace BK501 := bB BK501 hb; have NB508_521 := nlt hg BK508; have NB521_508 := nsy (nlt hg BK508); replace BK508 := bB BK508 hb; have NB514_521 := nlt hg BK514; have NB521_514 := nsy (nlt hg BK514); replace BK514 := bB BK514 hb; clear hb hg; have hnb325 := NB521_486.out; have hnc325 := NB486_521.out; have hnb326 := NB521_490.out; have hnc326 := NB490_521.out; have hnb327 := NB521_494.out; have hnc327 := NB494_521.out; have hnb328 := NB521_501.out; have hnc328 := NB501_521.out; have hnb329 := NB521_508.out; have hnc329 := NB508_521.out; have hnb330 := NB521_514.out; have hnc330 := NB514_521.out; obtain ⟨hcz331_0, hcz331_1, hfz331_0, hfz331_1⟩ := bz2 BK521; obtain ⟨hcz332_0, hcz332_1, hfz332_0, hfz332_1⟩ := bz2 BK490) | ((with_reducible refine gate_callee (f := 24) rfl ?_); refine gl 113 Tryz.func24 #[.int .i64 t487, .int .i64 t488] ?_; (with_reducible refine (impl_DivisorOf.calls _ _ _ _ _ _ A309.out).mono ?_); rintro e w333 ⟨rfl, hb⟩; refine ⟨_, rfl, ?_⟩; replace BK486 := asd (blk_below (g := gb486) (o := .cells #[.int .i64 t482, .int .i64 t483, .int .i64 t484, .int .i64 t485] 25 (0, 0)) (bq1 BK486 NB486_521) hb); replace BK490 := asd (blk_below (g := gb490) (o := .cells #[.int .i64 t487, .int .i64 t488] 27 (0, 0)) (bq1 BK490 NB490_521) hb); replace BK494 := asd (blk_below (g := gb494) (o := .cells #[.int .i64 t491, .int .i64 t492] 27 (0, 0)) (bq1 BK494 NB494_521) hb); replace BK501 := asd (blk_below (g := gb501) (o := .cells #[.int .i64 t496, .int .i64 t497, .int .i64 t498, .int .i64 t499] 25 (0, 0)) (bq1 BK501 NB501_521) hb); replace BK508 := asd (blk_below (g := gb508) (o := .cells #[.int .i64 t503, .int .i64 t504, .int .i64 t505, .int .i64 t506] 25 (0, 0)) (bq1 BK508 NB508_521) hb); replace BK514 := asd (blk_below (g := gb514) (o := .cells #[.int .i64 t509, .int .i64 t510, .int .i64 t511, .int .i64 t512] 25 (0, 0)) (bq1 BK514 NB514_521) hb); replace BK521 := asd (blk_below (g := gb521) (o := .cells #[.int .i64 t518, .int .i64 t519] 27 (0, 0)) (bq0 BK521) hb); replace HB := asd (below_step (by repeat (first | (with_reducible first | exact HB.out | apply below_alloc | apply pw_below_drewN | apply below_drew1 | refine below_set ?_ GE486.out | refine below_set ?_ GE490.out | refine below_set ?_ GE494.out | refine below_set ?_ GE501.out | refine below_set ?_ GE508.out | refine below_set ?_ GE514.out | refine below_set ?_ GE521.out) | exact HB.out)) hb); (try clear hb)))
        go_ret
        exact ⟨by first | rfl | (simp [errW_none, errW_some] <;> rfl) | (simp [*, errW_none, errW_some] <;> rfl), by repeat (first | (with_reducible first | exact HB.out | apply below_alloc | apply pw_below_drewN | apply below_drew1 | refine below_set ?_ GE486.out | refine below_set ?_ GE490.out | refine below_set ?_ GE494.out | refine below_set ?_ GE501.out | refine below_set ?_ GE508.out | refine below_set ?_ GE514.out | refine below_set ?_ GE521.out) | exact HB.out)⟩
       ·rw [if_neg c311] at H
        have c311b0 : (t523 == 0) = false := beq_eq_false_iff_ne.mpr c311
        have c311b1 : (t523 != 0) = true := bne_iff_ne.mpr c311
        exact absurd H (by simp)
      ·rw [if_neg c310] at H
       have c310b0 : (t520 == 3) = false := beq_eq_false_iff_ne.mpr c310
       have c310b1 : (t520 != 3) = true := bne_iff_ne.mpr c310
       by_cases c334 : t520 = 0
       ·rw [if_pos c334] at H
        have c334b0 : (t520 == 0) = true := beq_iff_eq.mpr c334
        have c334b1 : (t520 != 0) = false := bne_eq_false_iff_eq.mpr c334
        clear c334
        by_cases c335 : (t518 == t487 && (t519 == t488)) = true
        ·rw [if_pos c335] at H
         have c335b0 := c335
         (try (have c335b1 : decide (t518 = t487 && (t519 == t488)) = true := by simpa using c335))
         (try (have c335b2 : (t518 == t487 && (t519 == t488)) = true := by simpa using c335))
         clear c335
         by_cases c336 : t523 = 0
         ·rw [if_pos c336] at H
          have c336b0 : (t523 == 0) = true := beq_iff_eq.mpr c336
          have c336b1 : (t523 != 0) = false := bne_eq_false_iff_eq.mpr c336
          clear c336
          replace H := Option.some.inj H
          have hnb337 := NB486_490.out
          have hnc337 := NB490_486.out
          have hnb338 := NB486_494.out
          have hnc338 := NB494_486.out
          have hnb339 := NB486_501.out
          have hnc339 := NB501_486.out
          have hnb340 := NB486_508.out
          have hnc340 := NB508_486.out
          have hnb341 := NB486_514.out
          have hnc341 := NB514_486.out
          obtain ⟨hcz342_0, hcz342_1, hcz342_2, hcz342_3, hfz342_0, hfz342_1, hfz342_2, hfz342_3⟩ := bz4 BK486
          have hnb343 := NB490_494.out
          have hnc343 := NB494_490.out
          have hnb344 := NB490_501.out
          have hnc344 := NB501_490.out
          have hnb345 := NB490_508.out
          have hnc345 := NB508_490.out
          have hnb346 := NB490_514.out
          have hnc346 := NB514_490.out
          obtain ⟨hcz347_0, hcz347_1, hfz347_0, hfz347_1⟩ := bz2 BK490
          go_wp2_with (first | ((with_reducible refine gate_callee (f := 23) rfl ?_); refine gl 105 Tryz.func23 #[.agg #[.int .i64 t482, .int .i64 t483, .int .i64 t484, .int .i64 t485], .agg #[.int .i64 t487, .int .i64 t488]] ?_; (with_reducible refine (impl_ApplyMat.calls _ _ _ _ _ _ _ _ _ _ _ A308.out).mono ?_); rintro e w348 ⟨rfl, hb⟩; refine ⟨_, rfl, ?_⟩; replace BK486 := bB BK486 hb; replace BK490 := bB BK490 hb; replace BK494 := bB BK494 hb; replace BK501 := bB BK501 hb; replace BK508 := bB BK508 hb; replace BK514 := bB BK514 hb; replace HB := asd (below_step (by repeat (first | (with_reducible first | exact HB.out | apply below_alloc | apply pw_below_drewN | apply below_drew1 | refine below_set ?_ GE486.out | refine below_set ?_ GE490.out | refine below_set ?_ GE494.out | refine below_set ?_ GE501.out | refine below_set ?_ GE508.out | refine below_set ?_ GE514.out) | exact HB.out)) hb); (try clear hb)) | ((with_reducible refine gd 16 rfl ?_); refine bx #[.int .i64 0, .int .i64 0] 27 ?_; intro gb521 hg w349 BK521 hb; have GW521 := asd ((by rw [hg]; exact (below_size (by repeat (first | (with_reducible first | exact HB.out | apply below_alloc | apply pw_below_drewN | apply below_drew1 | refine below_set ?_ GE486.out | refine below_set ?_ GE490.out | refine below_set ?_ GE494.out | refine below_set ?_ GE501.out | refine below_set ?_ GE508.out | refine below_set ?_ GE514.out) | exact HB.out))) : w.heap.size ≤ gb521)); have GE521 := asd ((by rw [hg]; exact (below_size (by repeat (first | (with_reducible first | exact HB.out | apply below_alloc | apply pw_below_drewN | apply below_drew1 | refine below_set ?_ GE486.out | refine below_set ?_ GE490.out | refine below_set ?_ GE494.out | refine below_set ?_ GE501.out | refine below_set ?_ GE508.out | refine below_set ?_ GE514.out) | exact HB.out))) : w.heap.size ≤ gb521)); replace HB := asd (below_step (by repeat (first | (with_reducible first | exact HB.out | apply below_alloc | apply pw_below_drewN | apply below_drew1 | refine below_set ?_ GE486.out | refine below_set ?_ GE490.out | refine below_set ?_ GE494.out | refine below_set ?_ GE501.out | refine below_set ?_ GE508.out | refine below_set ?_ GE514.out) | exact HB.out)) hb); have NB486_521 := nlt hg BK486; have NB521_486 := nsy (nlt hg BK486); replace BK486 := bB BK486 hb; have NB490_521 := nlt hg BK490; have NB521_490 := nsy (nlt hg BK490); replace BK490 := bB BK490 hb; have NB494_521 := nlt hg BK494; have NB521_494 := nsy (nlt hg BK494); replace BK494 := bB BK494 hb; have NB501_521 := nlt hg BK501; have NB521_501 := nsy (nlt hg BK501); replace BK501 := bB BK501 hb; have NB508_521 := nlt hg BK508; have NB521_508 := nsy (nlt hg BK508); replace BK508 := bB BK508 hb; have NB514_521 := nlt hg BK514; have NB521_514 := nsy (nlt hg BK514); replace BK514 := bB BK514 hb; clear hb hg; have hnb350 := NB521_486.out; have hnc350 := NB486_521.out; have hnb351 := NB521_490.out; have hnc351 := NB490_521.out; have hnb352 := NB521_494.out; have hnc352 := NB494_521.out; have hnb353 := NB521_501.out; have hnc353 := NB501_521.out; have hnb354 := NB521_508.out; have hnc354 := NB508_521.out; have hnb355 := NB521_514.out; have hnc355 := NB514_521.out; obtain ⟨hcz356_0, hcz356_1, hfz356_0, hfz356_1⟩ := bz2 BK521; obtain ⟨hcz357_0, hcz357_1, hfz357_0, hfz357_1⟩ := bz2 BK490) | ((with_reducible refine gate_callee (f := 24) rfl ?_); refine gl 113 Tryz.func24 #[.int .i64 t487, .int .i64 t488] ?_; (with_reducible refine (impl_DivisorOf.calls _ _ _ _ _ _ A309.out).mono ?_); rintro e w358 ⟨rfl, hb⟩; refine ⟨_, rfl, ?_⟩; replace BK486 := asd (blk_below (g := gb486) (o := .cells #[.int .i64 t482, .int .i64 t483, .int .i64 t484, .int .i64 t485] 25 (0, 0)) (bq1 BK486 NB486_521) hb); replace BK490 := asd (blk_below (g := gb490) (o := .cells #[.int .i64 t487, .int .i64 t488] 27 (0, 0)) (bq1 BK490 NB490_521) hb); replace BK494 := asd (blk_below (g := gb494) (o := .cells #[.int .i64 t491, .int .i64 t492] 27 (0, 0)) (bq1 BK494 NB494_521) hb); replace BK501 := asd (blk_below (g := gb501) (o := .cells #[.int .i64 t496, .int .i64 t497, .int .i64 t498, .int .i64 t499] 25 (0, 0)) (bq1 BK501 NB501_521) hb); replace BK508 := asd (blk_below (g := gb508) (o := .cells #[.int .i64 t503, .int .i64 t504, .int .i64 t505, .int .i64 t506] 25 (0, 0)) (bq1 BK508 NB508_521) hb); replace BK514 := asd (blk_below (g := gb514) (o := .cells #[.int .i64 t509, .int .i64 t510, .int .i64 t511, .int .i64 t512] 25 (0, 0)) (bq1 BK514 NB514_521) hb); replace BK521 := asd (blk_below (g := gb521) (o := .cells #[.int .i64 t518, .int .i64 t519] 27 (0, 0)) (bq0 BK521) hb); replace HB := asd (below_step (by repeat (first | (with_reducible first | exact HB.out | apply below_alloc | apply pw_below_drewN | apply below_drew1 | refine below_set ?_ GE486.out | refine below_set ?_ GE490.out | refine below_set ?_ GE494.out | refine below_set ?_ GE501.out | refine below_set ?_ GE508.out | refine below_set ?_ GE514.out | refine below_set ?_ GE521.out) | exact HB.out)) hb); (try clear hb); obtain ⟨hcz359_0, hcz359_1, hfz359_0, hfz359_1⟩ := bz2 BK521; obtain ⟨hcz360_0, hcz360_1, hfz360_0, hfz360_1⟩ := bz2 BK490))
          go_ret
          exact ⟨by first | rfl | (simp [errW_none, errW_some] <;> rfl) | (simp [*, errW_none, errW_some] <;> rfl), by repeat (first | (with_reducible first | exact HB.out | apply below_alloc | apply pw_below_drewN | apply below_drew1 | refine below_set ?_ GE486.out | refine below_set ?_ GE490.out | refine below_set ?_ GE494.out | refine below_set ?_ GE501.out | refine below_set ?_ GE508.out | refine below_set ?_ GE514.out | refine below_set ?_ GE521.out) | exact HB.out)⟩
         ·rw [if_neg c336] at H
          have c336b0 : (t523 == 0) = false := beq_eq_false_iff_ne.mpr c336
          have c336b1 : (t523 != 0) = true := bne_iff_ne.mpr c336
          exact absurd H (by simp)
        ·rw [if_neg c335] at H
         have c335b0 : (t518 == t487 && (t519 == t488)) = false := by simpa using c335
         (try (have c335b1 : decide (t518 = t487 && (t519 == t488)) = false := by simpa using c335))
         (try (have c335b2 : (t518 == t487 && (t519 == t488)) = false := by simpa using c335))
         (try (have c335b3 : ¬ (t518 = t487 && (t519 == t488)) := by simpa using c335))
         clear c335
         exact absurd H (by simp)
       ·rw [if_neg c334] at H
        have c334b0 : (t520 == 0) = false := beq_eq_false_iff_ne.mpr c334
        have c334b1 : (t520 != 0) = true := bne_iff_ne.mpr c334
        exact absurd H (by simp)
     ·rw [if_neg c307] at H
      have c307b0 : (t489 == 0) = false := beq_eq_false_iff_ne.mpr c307
      have c307b1 : (t489 != 0) = true := bne_iff_ne.mpr c307
      clear H
      go_wp2
      go_ret
      exact ⟨by first | rfl | (simp [errW_none, errW_some] <;> rfl) | (simp [*, errW_none, errW_some] <;> rfl), by repeat (first | (with_reducible first | exact HB.out | apply below_alloc | apply pw_below_drewN | apply below_drew1 | refine below_set ?_ GE486.out | refine below_set ?_ GE490.out | refine below_set ?_ GE494.out | refine below_set ?_ GE501.out | refine below_set ?_ GE508.out | refine below_set ?_ GE514.out) | exact HB.out)⟩

/-- The one plain statement of laws_FnAxes. -/
def laws_FnAxes.Pure : Prop := ∀ (l0 : List Int), l0.length ≤ maxLen → (∀ x ∈ l0, (Lit.int .u8 x).wf = true) → ∃ k, laws_FnAxes.f k l0 = some true
end Go.Proofs.YtnblfcibgokccaaGreatDoor.PA
