/- Walks written by program: each Go function that the law reaches comes to the plain function beside it. -/
import Derived.Test.YtnblfcibgokccaaGreatDoorPCx0
import Derived.Test.YtnblfcibgokccaaGreatDoorPCx2
import Derived.Test.YtnblfcibgokccaaGreatDoorPCx3
import Derived.Test.YtnblfcibgokccaaGreatDoorPCx4
import Derived.Test.YtnblfcibgokccaaGreatDoorPCx6
import Derived.Test.YtnblfcibgokccaaGreatDoorPCx8
import Derived.Test.YtnblfcibgokccaaGreatDoorPCx10
import Derived.Test.YtnblfcibgokccaaGreatDoorPCx11
import Derived.Test.YtnblfcibgokccaaGreatDoorPCx12
import Derived.Test.YtnblfcibgokccaaGreatDoorPCx14
namespace Go.Proofs.YtnblfcibgokccaaGreatDoor.PC
open Go.RowKit Go.Proofs.YtnblfcibgokccaaGreatDoorW.PrintWords Go.Proofs.YtnblfcibgokccaaGreatDoorW.PrintLast Go.Proofs.YtnblfcibgokccaaGreatDoorW.PrintMore
attribute [local go_sem] max2_int min2_int max_two min_two max_three min_three max_four min_four   -- for this text's walks alone
set_option linter.unusedVariables false
set_option linter.unusedSimpArgs false

attribute [local go_sem high] eqA27 eqA29
/-! ### laws_FnCentres: function 3 -/
def laws_FnCentres.j0 : Nat → Int → Int → Bool → Int → Int → Int → Int → Int → Int → Int → Int → Option (Bool)
 | 0, _, _, _, _, _, _, _, _, _, _, _ => none
 | k + 1, x5, x6, x106, x685000, x685001, x685002, x685003, x685004, x685005, x690000, x690001 => if x106 = true then (some false) else (if x6 = 0 then (if x5 ≥ 1 then (if (wrap64 ((wrap64 ((wrap64 (x685000 * x690000)) + (wrap64 (x685001 * x690001)))) + (wrap64 (x5 * x685004)))) = x690000 then (some ((wrap64 ((wrap64 ((wrap64 (x685002 * x690000)) + (wrap64 (x685003 * x690001)))) + (wrap64 (x5 * x685005)))) == x690001)) else (some false)) else (some false)) else (some true))
def laws_FnCentres.f (k : Nat) (l0 : List Int) : Option (Bool) := (laws_big.f l0).bind fun t677 => (if t677 = true then (some true) else ((spec_DrawCentreOf.f k l0).bind fun bt678 => ((impl_CentreOf.f k bt678.1 bt678.2.1 bt678.2.2.1 bt678.2.2.2.1 bt678.2.2.2.2.1 bt678.2.2.2.2.2).bind fun bt685 => ((spec_CentreOf.f k bt678.1 bt678.2.1 bt678.2.2.1 bt678.2.2.2.1 bt678.2.2.2.2.1 bt678.2.2.2.2.2).bind fun bt690 => ((impl_MotionText.f k bt678.1 bt678.2.1 bt678.2.2.1 bt678.2.2.2.1 bt678.2.2.2.2.1 bt678.2.2.2.2.2).bind fun t695 => ((impl_ReadMotion.f k t695).bind fun bt696 => ((spec_DrawReadMotion.f k l0).bind fun t704 => ((impl_ReadMotion.f k t704).bind fun bt705 => ((spec_ReadMotion.f k t704).bind fun bt713 => (if bt685.2.2.2 = bt690.2.2.2 then (if (!(bt685.1 == bt690.1) || (!(bt685.2.1 == bt690.2.1))) = true then (laws_FnCentres.j0 k bt685.2.2.1 bt685.2.2.2 true bt678.1 bt678.2.1 bt678.2.2.1 bt678.2.2.2.1 bt678.2.2.2.2.1 bt678.2.2.2.2.2 bt685.1 bt685.2.1) else (if bt685.2.2.1 = bt690.2.2.1 then ((spec_MotionText.f k bt678.1 bt678.2.1 bt678.2.2.1 bt678.2.2.2.1 bt678.2.2.2.2.1 bt678.2.2.2.2.2).bind fun t721 => (if t695.toList = t721.toList then (if (bt696.2.2.2.2.2.2 != (t695.toList != ([] : List UInt8))) = true then (laws_FnCentres.j0 k bt685.2.2.1 bt685.2.2.2 true bt678.1 bt678.2.1 bt678.2.2.1 bt678.2.2.2.1 bt678.2.2.2.2.1 bt678.2.2.2.2.2 bt685.1 bt685.2.1) else (if bt696.2.2.2.2.2.2 = true then (if ((!(bt696.1 == bt678.1) || (!(bt696.2.1 == bt678.2.1) || (!(bt696.2.2.1 == bt678.2.2.1) || (!(bt696.2.2.2.1 == bt678.2.2.2.1))))) || ((!(bt696.2.2.2.2.1 == bt678.2.2.2.2.1) || (!(bt696.2.2.2.2.2.1 == bt678.2.2.2.2.2))))) = true then (laws_FnCentres.j0 k bt685.2.2.1 bt685.2.2.2 true bt678.1 bt678.2.1 bt678.2.2.1 bt678.2.2.2.1 bt678.2.2.2.2.1 bt678.2.2.2.2.2 bt685.1 bt685.2.1) else (if ((!(bt705.1 == bt713.1) || (!(bt705.2.1 == bt713.2.1) || (!(bt705.2.2.1 == bt713.2.2.1) || (!(bt705.2.2.2.1 == bt713.2.2.2.1))))) || ((!(bt705.2.2.2.2.1 == bt713.2.2.2.2.1) || (!(bt705.2.2.2.2.2.1 == bt713.2.2.2.2.2.1))))) = true then (laws_FnCentres.j0 k bt685.2.2.1 bt685.2.2.2 true bt678.1 bt678.2.1 bt678.2.2.1 bt678.2.2.2.1 bt678.2.2.2.2.1 bt678.2.2.2.2.2 bt685.1 bt685.2.1) else (if (bt705.2.2.2.2.2.2 != bt713.2.2.2.2.2.2) = true then (laws_FnCentres.j0 k bt685.2.2.1 bt685.2.2.2 true bt678.1 bt678.2.1 bt678.2.2.1 bt678.2.2.2.1 bt678.2.2.2.2.1 bt678.2.2.2.2.2 bt685.1 bt685.2.1) else (if bt705.2.2.2.2.2.2 = true then ((impl_MotionText.f k bt705.1 bt705.2.1 bt705.2.2.1 bt705.2.2.2.1 bt705.2.2.2.2.1 bt705.2.2.2.2.2.1).bind fun t722 => (laws_FnCentres.j0 k bt685.2.2.1 bt685.2.2.2 (t722.toList != t704.toList) bt678.1 bt678.2.1 bt678.2.2.1 bt678.2.2.2.1 bt678.2.2.2.2.1 bt678.2.2.2.2.2 bt685.1 bt685.2.1)) else (laws_FnCentres.j0 k bt685.2.2.1 bt685.2.2.2 false bt678.1 bt678.2.1 bt678.2.2.1 bt678.2.2.2.1 bt678.2.2.2.2.1 bt678.2.2.2.2.2 bt685.1 bt685.2.1))))) else (if ((!(bt705.1 == bt713.1) || (!(bt705.2.1 == bt713.2.1) || (!(bt705.2.2.1 == bt713.2.2.1) || (!(bt705.2.2.2.1 == bt713.2.2.2.1))))) || ((!(bt705.2.2.2.2.1 == bt713.2.2.2.2.1) || (!(bt705.2.2.2.2.2.1 == bt713.2.2.2.2.2.1))))) = true then (laws_FnCentres.j0 k bt685.2.2.1 bt685.2.2.2 true bt678.1 bt678.2.1 bt678.2.2.1 bt678.2.2.2.1 bt678.2.2.2.2.1 bt678.2.2.2.2.2 bt685.1 bt685.2.1) else (if (bt705.2.2.2.2.2.2 != bt713.2.2.2.2.2.2) = true then (laws_FnCentres.j0 k bt685.2.2.1 bt685.2.2.2 true bt678.1 bt678.2.1 bt678.2.2.1 bt678.2.2.2.1 bt678.2.2.2.2.1 bt678.2.2.2.2.2 bt685.1 bt685.2.1) else (if bt705.2.2.2.2.2.2 = true then ((impl_MotionText.f k bt705.1 bt705.2.1 bt705.2.2.1 bt705.2.2.2.1 bt705.2.2.2.2.1 bt705.2.2.2.2.2.1).bind fun t723 => (laws_FnCentres.j0 k bt685.2.2.1 bt685.2.2.2 (t723.toList != t704.toList) bt678.1 bt678.2.1 bt678.2.2.1 bt678.2.2.2.1 bt678.2.2.2.2.1 bt678.2.2.2.2.2 bt685.1 bt685.2.1)) else (laws_FnCentres.j0 k bt685.2.2.1 bt685.2.2.2 false bt678.1 bt678.2.1 bt678.2.2.1 bt678.2.2.2.1 bt678.2.2.2.2.1 bt678.2.2.2.2.2 bt685.1 bt685.2.1)))))) else (laws_FnCentres.j0 k bt685.2.2.1 bt685.2.2.2 true bt678.1 bt678.2.1 bt678.2.2.1 bt678.2.2.2.1 bt678.2.2.2.2.1 bt678.2.2.2.2.2 bt685.1 bt685.2.1))) else (laws_FnCentres.j0 k bt685.2.2.1 bt685.2.2.2 true bt678.1 bt678.2.1 bt678.2.2.1 bt678.2.2.2.1 bt678.2.2.2.2.1 bt678.2.2.2.2.2 bt685.1 bt685.2.1))) else (laws_FnCentres.j0 k bt685.2.2.1 bt685.2.2.2 true bt678.1 bt678.2.1 bt678.2.2.1 bt678.2.2.2.1 bt678.2.2.2.2.1 bt678.2.2.2.2.2 bt685.1 bt685.2.1)))))))))))
theorem laws_FnCentres.j0_dead (k : Nat) (a0 : Int) (a1 : Int) (a3 : Int) (a4 : Int) (a5 : Int) (a6 : Int) (a7 : Int) (a8 : Int) (a9 : Int) (a10 : Int) : laws_FnCentres.j0 k a0 a1 true a3 a4 a5 a6 a7 a8 a9 a10 ≠ some true := by
 cases k <;> simp [laws_FnCentres.j0]
set_option maxHeartbeats 80000000 in
set_option maxRecDepth 100000 in
theorem laws_FnCentres.calls (k : Nat) (A0 : Option Addr) (c0 : Nat) (l0 : List Int) (w : World) (hr0 : Kd.C (Kd.int .u8) w A0 l0.length l0) (hc0 : l0.length ≤ c0) (htab : texts.Tab w) (h : laws_FnCentres.f k l0 = some true) :
  Calls Tryz.prog 3 #[.slice A0 l0.length c0] w fun e w' => e = .returned (.bool true) ∧ Below w.heap.size w w' := by
 have HTAB := Aside0.mk htab
 clear htab
 have hu29 := Tryz.underlying29
 have hu27 := Tryz.underlying27
 have HR0 := Aside0.mk hr0
 have HC0 := Aside0.mk hc0
 clear hr0 hc0
 have HB := asd (Below.refl w.heap.size w)
 have H : ((laws_big.f l0).bind fun t677 => (if t677 = true then (some true) else ((spec_DrawCentreOf.f k l0).bind fun bt678 => ((impl_CentreOf.f k bt678.1 bt678.2.1 bt678.2.2.1 bt678.2.2.2.1 bt678.2.2.2.2.1 bt678.2.2.2.2.2).bind fun bt685 => ((spec_CentreOf.f k bt678.1 bt678.2.1 bt678.2.2.1 bt678.2.2.2.1 bt678.2.2.2.2.1 bt678.2.2.2.2.2).bind fun bt690 => ((impl_MotionText.f k bt678.1 bt678.2.1 bt678.2.2.1 bt678.2.2.2.1 bt678.2.2.2.2.1 bt678.2.2.2.2.2).bind fun t695 => ((impl_ReadMotion.f k t695).bind fun bt696 => ((spec_DrawReadMotion.f k l0).bind fun t704 => ((impl_ReadMotion.f k t704).bind fun bt705 => ((spec_ReadMotion.f k t704).bind fun bt713 => (if bt685.2.2.2 = bt690.2.2.2 then (if (!(bt685.1 == bt690.1) || (!(bt685.2.1 == bt690.2.1))) = true then (laws_FnCentres.j0 k bt685.2.2.1 bt685.2.2.2 true bt678.1 bt678.2.1 bt678.2.2.1 bt678.2.2.2.1 bt678.2.2.2.2.1 bt678.2.2.2.2.2 bt685.1 bt685.2.1) else (if bt685.2.2.1 = bt690.2.2.1 then ((spec_MotionText.f k bt678.1 bt678.2.1 bt678.2.2.1 bt678.2.2.2.1 bt678.2.2.2.2.1 bt678.2.2.2.2.2).bind fun t721 => (if t695.toList = t721.toList then (if (bt696.2.2.2.2.2.2 != (t695.toList != ([] : List UInt8))) = true then (laws_FnCentres.j0 k bt685.2.2.1 bt685.2.2.2 true bt678.1 bt678.2.1 bt678.2.2.1 bt678.2.2.2.1 bt678.2.2.2.2.1 bt678.2.2.2.2.2 bt685.1 bt685.2.1) else (if bt696.2.2.2.2.2.2 = true then (if ((!(bt696.1 == bt678.1) || (!(bt696.2.1 == bt678.2.1) || (!(bt696.2.2.1 == bt678.2.2.1) || (!(bt696.2.2.2.1 == bt678.2.2.2.1))))) || ((!(bt696.2.2.2.2.1 == bt678.2.2.2.2.1) || (!(bt696.2.2.2.2.2.1 == bt678.2.2.2.2.2))))) = true then (laws_FnCentres.j0 k bt685.2.2.1 bt685.2.2.2 true bt678.1 bt678.2.1 bt678.2.2.1 bt678.2.2.2.1 bt678.2.2.2.2.1 bt678.2.2.2.2.2 bt685.1 bt685.2.1) else (if ((!(bt705.1 == bt713.1) || (!(bt705.2.1 == bt713.2.1) || (!(bt705.2.2.1 == bt713.2.2.1) || (!(bt705.2.2.2.1 == bt713.2.2.2.1))))) || ((!(bt705.2.2.2.2.1 == bt713.2.2.2.2.1) || (!(bt705.2.2.2.2.2.1 == bt713.2.2.2.2.2.1))))) = true then (laws_FnCentres.j0 k bt685.2.2.1 bt685.2.2.2 true bt678.1 bt678.2.1 bt678.2.2.1 bt678.2.2.2.1 bt678.2.2.2.2.1 bt678.2.2.2.2.2 bt685.1 bt685.2.1) else (if (bt705.2.2.2.2.2.2 != bt713.2.2.2.2.2.2) = true then (laws_FnCentres.j0 k bt685.2.2.1 bt685.2.2.2 true bt678.1 bt678.2.1 bt678.2.2.1 bt678.2.2.2.1 bt678.2.2.2.2.1 bt678.2.2.2.2.2 bt685.1 bt685.2.1) else (if bt705.2.2.2.2.2.2 = true then ((impl_MotionText.f k bt705.1 bt705.2.1 bt705.2.2.1 bt705.2.2.2.1 bt705.2.2.2.2.1 bt705.2.2.2.2.2.1).bind fun t722 => (laws_FnCentres.j0 k bt685.2.2.1 bt685.2.2.2 (t722.toList != t704.toList) bt678.1 bt678.2.1 bt678.2.2.1 bt678.2.2.2.1 bt678.2.2.2.2.1 bt678.2.2.2.2.2 bt685.1 bt685.2.1)) else (laws_FnCentres.j0 k bt685.2.2.1 bt685.2.2.2 false bt678.1 bt678.2.1 bt678.2.2.1 bt678.2.2.2.1 bt678.2.2.2.2.1 bt678.2.2.2.2.2 bt685.1 bt685.2.1))))) else (if ((!(bt705.1 == bt713.1) || (!(bt705.2.1 == bt713.2.1) || (!(bt705.2.2.1 == bt713.2.2.1) || (!(bt705.2.2.2.1 == bt713.2.2.2.1))))) || ((!(bt705.2.2.2.2.1 == bt713.2.2.2.2.1) || (!(bt705.2.2.2.2.2.1 == bt713.2.2.2.2.2.1))))) = true then (laws_FnCentres.j0 k bt685.2.2.1 bt685.2.2.2 true bt678.1 bt678.2.1 bt678.2.2.1 bt678.2.2.2.1 bt678.2.2.2.2.1 bt678.2.2.2.2.2 bt685.1 bt685.2.1) else (if (bt705.2.2.2.2.2.2 != bt713.2.2.2.2.2.2) = true then (laws_FnCentres.j0 k bt685.2.2.1 bt685.2.2.2 true bt678.1 bt678.2.1 bt678.2.2.1 bt678.2.2.2.1 bt678.2.2.2.2.1 bt678.2.2.2.2.2 bt685.1 bt685.2.1) else (if bt705.2.2.2.2.2.2 = true then ((impl_MotionText.f k bt705.1 bt705.2.1 bt705.2.2.1 bt705.2.2.2.1 bt705.2.2.2.2.1 bt705.2.2.2.2.2.1).bind fun t723 => (laws_FnCentres.j0 k bt685.2.2.1 bt685.2.2.2 (t723.toList != t704.toList) bt678.1 bt678.2.1 bt678.2.2.1 bt678.2.2.2.1 bt678.2.2.2.2.1 bt678.2.2.2.2.2 bt685.1 bt685.2.1)) else (laws_FnCentres.j0 k bt685.2.2.1 bt685.2.2.2 false bt678.1 bt678.2.1 bt678.2.2.1 bt678.2.2.2.1 bt678.2.2.2.2.1 bt678.2.2.2.2.2 bt685.1 bt685.2.1)))))) else (laws_FnCentres.j0 k bt685.2.2.1 bt685.2.2.2 true bt678.1 bt678.2.1 bt678.2.2.1 bt678.2.2.2.1 bt678.2.2.2.2.1 bt678.2.2.2.2.2 bt685.1 bt685.2.1))) else (laws_FnCentres.j0 k bt685.2.2.1 bt685.2.2.2 true bt678.1 bt678.2.1 bt678.2.2.1 bt678.2.2.2.1 bt678.2.2.2.2.1 bt678.2.2.2.2.2 bt685.1 bt685.2.1))) else (laws_FnCentres.j0 k bt685.2.2.1 bt685.2.2.2 true bt678.1 bt678.2.1 bt678.2.2.1 bt678.2.2.2.1 bt678.2.2.2.2.1 bt678.2.2.2.2.2 bt685.1 bt685.2.1)))))))))))) = some true := h
 clear h
 obtain ⟨t677, A2, H⟩ := ob H
 try dsimp only at H
 by_cases c3 : t677 = true
 ·subst c3
  replace H := ifT H
  clear H
  go_enter Tryz.func3, Tryz.ntmps3
  go_wp2_with (first | ((with_reducible refine gate_callee (f := 6) rfl ?_); refine gl 21 Tryz.func6 #[.slice A0 l0.length c0] ?_; (with_reducible refine (laws_big.calls _ _ _ _ _ ?side1 ?side2 A2.out).mono ?_); (case side1 => exact ks HR0.out); (case side2 => exact HC0.out); rintro e w' ⟨rfl, ⟨nd, rfl⟩⟩; refine ⟨_, rfl, ?_⟩))
  go_ret
  exact er (bbw0 HB)
 ·replace c3 := Bool.eq_false_iff.mpr c3
  subst c3
  replace H := ifF H
  obtain ⟨⟨t678, t679, t680, t681, t682, t683⟩, A4, H⟩ := ob H
  try dsimp only at H
  obtain ⟨⟨t685, t686, t687, t688⟩, A5, H⟩ := ob H
  try dsimp only at H
  obtain ⟨⟨t690, t691, t692, t693⟩, A6, H⟩ := ob H
  try dsimp only at H
  obtain ⟨t695, A7, H⟩ := ob H
  try dsimp only at H
  obtain ⟨⟨t696, t697, t698, t699, t700, t701, t702⟩, A8, H⟩ := ob H
  try dsimp only at H
  obtain ⟨t704, A9, H⟩ := ob H
  try dsimp only at H
  obtain ⟨⟨t705, t706, t707, t708, t709, t710, t711⟩, A10, H⟩ := ob H
  try dsimp only at H
  obtain ⟨⟨t713, t714, t715, t716, t717, t718, t719⟩, A11, H⟩ := ob H
  try dsimp only at H
  have HC12 := Aside0.mk H
  clear H
  go_enter Tryz.func3, Tryz.ntmps3
  go_upto_region 11 with (first | ((with_reducible refine gate_callee (f := 6) rfl ?_); refine gl 21 Tryz.func6 #[.slice A0 l0.length c0] ?_; (with_reducible refine (laws_big.calls _ _ _ _ _ ?side1 ?side2 A2.out).mono ?_); (case side1 => exact ks HR0.out); (case side2 => exact HC0.out); rintro e w' ⟨rfl, ⟨nd, rfl⟩⟩; refine ⟨_, rfl, ?_⟩) | ((with_reducible refine gate_callee (f := 7) rfl ?_); refine gl 23 Tryz.func7 #[.slice A0 l0.length c0] ?_; (with_reducible refine (spec_DrawCentreOf.calls _ _ _ _ _ _ _ _ _ _ _ ?side1 ?side2 A4.out).mono ?_); (case side1 => exact ks HR0.out); (case side2 => exact HC0.out); rintro e w13 ⟨rfl, hb⟩; refine ⟨_, rfl, ?_⟩; replace HB := bS0 HB hb; (try clear hb)) | ((with_reducible refine gd 3 rfl ?_); refine bx #[.int .i64 0, .int .i64 0, .int .i64 0, .int .i64 0, .int .i64 0, .int .i64 0] 29 ?_; intro gb684 hg w14 BK684 hb; have GE684 := ngw0 hg HB; replace HB := bS0 HB hb; clear hb hg; obtain ⟨hcz15_0, hcz15_1, hcz15_2, hcz15_3, hcz15_4, hcz15_5, hfz15_0, hfz15_1, hfz15_2, hfz15_3, hfz15_4, hfz15_5⟩ := bz6 BK684) | ((with_reducible refine gate_callee (f := 8) rfl ?_); refine gl 26 Tryz.func8 #[.agg #[.int .i64 t678, .int .i64 t679, .int .i64 t680, .int .i64 t681, .int .i64 t682, .int .i64 t683]] ?_; (with_reducible refine (impl_CentreOf.calls _ _ _ _ _ _ _ _ _ _ _ _ A5.out).mono ?_); rintro e w16 ⟨rfl, hb⟩; refine ⟨_, rfl, ?_⟩; replace BK684 := asd (blk_below (g := gb684) (o := .cells #[.int .i64 t678, .int .i64 t679, .int .i64 t680, .int .i64 t681, .int .i64 t682, .int .i64 t683] 29 (0, 0)) (bq0 BK684) hb); replace HB := bS1 HB GE684 hb; (try clear hb)) | ((with_reducible refine gd 4 rfl ?_); refine bx #[.int .i64 0, .int .i64 0] 27 ?_; intro gb689 hg w17 BK689 hb; have GE689 := ngw1 hg HB GE684; replace HB := bS1 HB GE684 hb; have NB684_689 := nlt hg BK684; have NB689_684 := nsy (nlt hg BK684); replace BK684 := bB BK684 hb; clear hb hg; have hnb18 := NB689_684.out; have hnc18 := NB684_689.out; obtain ⟨hcz19_0, hcz19_1, hfz19_0, hfz19_1⟩ := bz2 BK689; obtain ⟨hcz20_0, hcz20_1, hcz20_2, hcz20_3, hcz20_4, hcz20_5, hfz20_0, hfz20_1, hfz20_2, hfz20_3, hfz20_4, hfz20_5⟩ := bz6 BK684) | ((with_reducible refine gate_callee (f := 9) rfl ?_); refine gl 32 Tryz.func9 #[.agg #[.int .i64 t678, .int .i64 t679, .int .i64 t680, .int .i64 t681, .int .i64 t682, .int .i64 t683]] ?_; (with_reducible refine (spec_CentreOf.calls _ _ _ _ _ _ _ _ _ _ _ _ A6.out).mono ?_); rintro e w21 ⟨rfl, hb⟩; refine ⟨_, rfl, ?_⟩; replace BK684 := asd (blk_below (g := gb684) (o := .cells #[.int .i64 t678, .int .i64 t679, .int .i64 t680, .int .i64 t681, .int .i64 t682, .int .i64 t683] 29 (0, 0)) (bq1 BK684 NB684_689) hb); replace BK689 := asd (blk_below (g := gb689) (o := .cells #[.int .i64 t685, .int .i64 t686] 27 (0, 0)) (bq0 BK689) hb); replace HB := bS2 HB GE684 GE689 hb; (try clear hb)) | ((with_reducible refine gd 7 rfl ?_); refine bx #[.int .i64 0, .int .i64 0] 27 ?_; intro gb694 hg w22 BK694 hb; have GE694 := ngw2 hg HB GE684 GE689; replace HB := bS2 HB GE684 GE689 hb; have NB684_694 := nlt hg BK684; have NB694_684 := nsy (nlt hg BK684); replace BK684 := bB BK684 hb; have NB689_694 := nlt hg BK689; have NB694_689 := nsy (nlt hg BK689); replace BK689 := bB BK689 hb; clear hb hg; have hnb23 := NB694_684.out; have hnc23 := NB684_694.out; have hnb24 := NB694_689.out; have hnc24 := NB689_694.out; obtain ⟨hcz25_0, hcz25_1, hfz25_0, hfz25_1⟩ := bz2 BK694; obtain ⟨hcz26_0, hcz26_1, hcz26_2, hcz26_3, hcz26_4, hcz26_5, hfz26_0, hfz26_1, hfz26_2, hfz26_3, hfz26_4, hfz26_5⟩ := bz6 BK684) | ((with_reducible refine gate_callee (f := 10) rfl ?_); refine gl 37 Tryz.func10 #[.agg #[.int .i64 t678, .int .i64 t679, .int .i64 t680, .int .i64 t681, .int .i64 t682, .int .i64 t683]] ?_; (with_reducible refine (impl_MotionText.calls _ _ _ _ _ _ _ _ _ (texts.tabB HTAB.out (by repeat (first | (with_reducible first | exact HB.out | exact Below.refl _ _ | apply below_alloc | apply pw_below_drewN | apply below_drew1 | refine below_set ?_ GE684.out | refine below_set ?_ GE689.out | refine below_set ?_ GE694.out | refine below_set ?_ GE703.out | refine below_set ?_ GE712.out | refine below_set ?_ GE720.out) | exact HB.out))) A7.out).mono ?_); rintro e w27 ⟨rfl, hb⟩; refine ⟨_, rfl, ?_⟩; replace BK684 := asd (blk_below (g := gb684) (o := .cells #[.int .i64 t678, .int .i64 t679, .int .i64 t680, .int .i64 t681, .int .i64 t682, .int .i64 t683] 29 (0, 0)) (bq1 BK684 NB684_694) hb); replace BK689 := asd (blk_below (g := gb689) (o := .cells #[.int .i64 t685, .int .i64 t686] 27 (0, 0)) (bq1 BK689 NB689_694) hb); replace BK694 := asd (blk_below (g := gb694) (o := .cells #[.int .i64 t690, .int .i64 t691] 27 (0, 0)) (bq0 BK694) hb); replace HB := bS3 HB GE684 GE689 GE694 hb; (try clear hb)) | ((with_reducible refine gate_callee (f := 11) rfl ?_); refine gl 40 Tryz.func11 #[.string t695] ?_; (with_reducible refine (impl_ReadMotion.calls _ _ _ _ _ _ _ _ _ _ (texts.tabB HTAB.out (by repeat (first | (with_reducible first | exact HB.out | exact Below.refl _ _ | apply below_alloc | apply pw_below_drewN | apply below_drew1 | refine below_set ?_ GE684.out | refine below_set ?_ GE689.out | refine below_set ?_ GE694.out | refine below_set ?_ GE703.out | refine below_set ?_ GE712.out | refine below_set ?_ GE720.out) | exact HB.out))) A8.out).mono ?_); rintro e w28 ⟨rfl, hb⟩; refine ⟨_, rfl, ?_⟩; replace BK684 := bB BK684 hb; replace BK689 := bB BK689 hb; replace BK694 := bB BK694 hb; replace HB := bS3 HB GE684 GE689 GE694 hb; (try clear hb)) | ((with_reducible refine gd 11 rfl ?_); refine bx #[.int .i64 0, .int .i64 0, .int .i64 0, .int .i64 0, .int .i64 0, .int .i64 0] 29 ?_; intro gb703 hg w29 BK703 hb; have GE703 := ngw3 hg HB GE684 GE689 GE694; replace HB := bS3 HB GE684 GE689 GE694 hb; have NB684_703 := nlt hg BK684; have NB703_684 := nsy (nlt hg BK684); replace BK684 := bB BK684 hb; have NB689_703 := nlt hg BK689; have NB703_689 := nsy (nlt hg BK689); replace BK689 := bB BK689 hb; have NB694_703 := nlt hg BK694; have NB703_694 := nsy (nlt hg BK694); replace BK694 := bB BK694 hb; clear hb hg; have hnb30 := NB703_684.out; have hnc30 := NB684_703.out; have hnb31 := NB703_689.out; have hnc31 := NB689_703.out; have hnb32 := NB703_694.out; have hnc32 := NB694_703.out; obtain ⟨hcz33_0, hcz33_1, hcz33_2, hcz33_3, hcz33_4, hcz33_5, hfz33_0, hfz33_1, hfz33_2, hfz33_3, hfz33_4, hfz33_5⟩ := bz6 BK703) | ((with_reducible refine gate_callee (f := 12) rfl ?_); refine gl 44 Tryz.func12 #[.slice A0 l0.length c0] ?_; (with_reducible refine (spec_DrawReadMotion.calls _ _ _ _ _ _ ?side1 ?side2 A9.out).mono ?_); (case side1 => exact Kd.C_below HR0.out (bbw4 HB GE684 GE689 GE694 GE703)); (case side2 => exact HC0.out); rintro e w34 ⟨rfl, hb⟩; refine ⟨_, rfl, ?_⟩; replace BK684 := asd (blk_below (g := gb684) (o := .cells #[.int .i64 t678, .int .i64 t679, .int .i64 t680, .int .i64 t681, .int .i64 t682, .int .i64 t683] 29 (0, 0)) (bq1 BK684 NB684_703) hb); replace BK689 := asd (blk_below (g := gb689) (o := .cells #[.int .i64 t685, .int .i64 t686] 27 (0, 0)) (bq1 BK689 NB689_703) hb); replace BK694 := asd (blk_below (g := gb694) (o := .cells #[.int .i64 t690, .int .i64 t691] 27 (0, 0)) (bq1 BK694 NB694_703) hb); replace BK703 := asd (blk_below (g := gb703) (o := .cells #[.int .i64 t696, .int .i64 t697, .int .i64 t698, .int .i64 t699, .int .i64 t700, .int .i64 t701] 29 (0, 0)) (bq0 BK703) hb); replace HB := bS4 HB GE684 GE689 GE694 GE703 hb; (try clear hb)) | ((with_reducible refine gate_callee (f := 11) rfl ?_); refine gl 47 Tryz.func11 #[.string t704] ?_; (with_reducible refine (impl_ReadMotion.calls _ _ _ _ _ _ _ _ _ _ (texts.tabB HTAB.out (by repeat (first | (with_reducible first | exact HB.out | exact Below.refl _ _ | apply below_alloc | apply pw_below_drewN | apply below_drew1 | refine below_set ?_ GE684.out | refine below_set ?_ GE689.out | refine below_set ?_ GE694.out | refine below_set ?_ GE703.out | refine below_set ?_ GE712.out | refine below_set ?_ GE720.out) | exact HB.out))) A10.out).mono ?_); rintro e w35 ⟨rfl, hb⟩; refine ⟨_, rfl, ?_⟩; replace BK684 := bB BK684 hb; replace BK689 := bB BK689 hb; replace BK694 := bB BK694 hb; replace BK703 := bB BK703 hb; replace HB := bS4 HB GE684 GE689 GE694 GE703 hb; (try clear hb)) | ((with_reducible refine gd 14 rfl ?_); refine bx #[.int .i64 0, .int .i64 0, .int .i64 0, .int .i64 0, .int .i64 0, .int .i64 0] 29 ?_; intro gb712 hg w36 BK712 hb; have GE712 := ngw4 hg HB GE684 GE689 GE694 GE703; replace HB := bS4 HB GE684 GE689 GE694 GE703 hb; have NB684_712 := nlt hg BK684; have NB712_684 := nsy (nlt hg BK684); replace BK684 := bB BK684 hb; have NB689_712 := nlt hg BK689; have NB712_689 := nsy (nlt hg BK689); replace BK689 := bB BK689 hb; have NB694_712 := nlt hg BK694; have NB712_694 := nsy (nlt hg BK694); replace BK694 := bB BK694 hb; have NB703_712 := nlt hg BK703; have NB712_703 := nsy (nlt hg BK703); replace BK703 := bB BK703 hb; clear hb hg; have hnb37 := NB712_684.out; have hnc37 := NB684_712.out; have hnb38 := NB712_689.out; have hnc38 := NB689_712.out; have hnb39 := NB712_694.out; have hnc39 := NB694_712.out; have hnb40 := NB712_703.out; have hnc40 := NB703_712.out; obtain ⟨hcz41_0, hcz41_1, hcz41_2, hcz41_3, hcz41_4, hcz41_5, hfz41_0, hfz41_1, hfz41_2, hfz41_3, hfz41_4, hfz41_5⟩ := bz6 BK712) | ((with_reducible refine gate_callee (f := 13) rfl ?_); refine gl 52 Tryz.func13 #[.string t704] ?_; (with_reducible refine (spec_ReadMotion.calls _ _ _ _ _ _ _ _ _ _ A11.out).mono ?_); rintro e w42 ⟨rfl, hb⟩; refine ⟨_, rfl, ?_⟩; replace BK684 := asd (blk_below (g := gb684) (o := .cells #[.int .i64 t678, .int .i64 t679, .int .i64 t680, .int .i64 t681, .int .i64 t682, .int .i64 t683] 29 (0, 0)) (bq1 BK684 NB684_712) hb); replace BK689 := asd (blk_below (g := gb689) (o := .cells #[.int .i64 t685, .int .i64 t686] 27 (0, 0)) (bq1 BK689 NB689_712) hb); replace BK694 := asd (blk_below (g := gb694) (o := .cells #[.int .i64 t690, .int .i64 t691] 27 (0, 0)) (bq1 BK694 NB694_712) hb); replace BK703 := asd (blk_below (g := gb703) (o := .cells #[.int .i64 t696, .int .i64 t697, .int .i64 t698, .int .i64 t699, .int .i64 t700, .int .i64 t701] 29 (0, 0)) (bq1 BK703 NB703_712) hb); replace BK712 := asd (blk_below (g := gb712) (o := .cells #[.int .i64 t705, .int .i64 t706, .int .i64 t707, .int .i64 t708, .int .i64 t709, .int .i64 t710] 29 (0, 0)) (bq0 BK712) hb); replace HB := asd (below_step (by repeat (first | (with_reducible first | exact HB.out | apply below_alloc | apply pw_below_drewN | apply below_drew1 | refine below_set ?_ GE684.out | refine below_set ?_ GE689.out | refine below_set ?_ GE694.out | refine below_set ?_ GE703.out | refine below_set ?_ GE712.out) | exact HB.out)) hb); (try clear hb)) | ((with_reducible refine gd 16 rfl ?_); refine bx #[.int .i64 0, .int .i64 0, .int .i64 0, .int .i64 0, .int .i64 0, .int .i64 0] 29 ?_; intro gb720 hg w43 BK720 hb; have GW720 := asd ((by rw [hg]; exact (below_size (by repeat (first | (with_reducible first | exact HB.out | apply below_alloc | apply pw_below_drewN | apply below_drew1 | refine below_set ?_ GE684.out | refine below_set ?_ GE689.out | refine below_set ?_ GE694.out | refine below_set ?_ GE703.out | refine below_set ?_ GE712.out) | exact HB.out))) : w.heap.size ≤ gb720)); have GE720 := asd ((by rw [hg]; exact (below_size (by repeat (first | (with_reducible first | exact HB.out | apply below_alloc | apply pw_below_drewN | apply below_drew1 | refine below_set ?_ GE684.out | refine below_set ?_ GE689.out | refine below_set ?_ GE694.out | refine below_set ?_ GE703.out | refine below_set ?_ GE712.out) | exact HB.out))) : w.heap.size ≤ gb720)); replace HB := asd (below_step (by repeat (first | (with_reducible first | exact HB.out | apply below_alloc | apply pw_below_drewN | apply below_drew1 | refine below_set ?_ GE684.out | refine below_set ?_ GE689.out | refine below_set ?_ GE694.out | refine below_set ?_ GE703.out | refine below_set ?_ GE712.out) | exact HB.out)) hb); have NB684_720 := nlt hg BK684; have NB720_684 := nsy (nlt hg BK684); replace BK684 := bB BK684 hb; have NB689_720 := nlt hg BK689; have NB720_689 := nsy (nlt hg BK689); replace BK689 := bB BK689 hb; have NB694_720 := nlt hg BK694; have NB720_694 := nsy (nlt hg BK694); replace BK694 := bB BK694 hb; have NB703_720 := nlt hg BK703; have NB720_703 := nsy (nlt hg BK703); replace BK703 := bB BK703 hb; have NB712_720 := nlt hg BK712; have NB720_712 := nsy (nlt hg BK712); replace BK712 := bB BK712 hb; clear hb hg; have hnb44 := NB720_684.out; have hnc44 := NB684_720.out; have hnb45 := NB720_689.out; have hnc45 := NB689_720.out; have hnb46 := NB720_694.out; have hnc46 := NB694_720.out; have hnb47 := NB720_703.out; have hnc47 := NB703_720.out; have hnb48 := NB720_712.out; have hnc48 := NB712_720.out; obtain ⟨hcz49_0, hcz49_1, hcz49_2, hcz49_3, hcz49_4, hcz49_5, hfz49_0, hfz49_1, hfz49_2, hfz49_3, hfz49_4, hfz49_5⟩ := bz6 BK720))
  (try simp only [Act.put, sA, sB, sC])
  go_cut [106] (fun v106 wc => ∃ (kq : Nat) (x106_11 : Bool), v106 = .bool x106_11 ∧ Aside0 (laws_FnCentres.j0 kq t687 t688 x106_11 t678 t679 t680 t681 t682 t683 t685 t686 = some true) ∧ Aside0 (kq ≤ k) ∧ Aside0 (wc.heap[gb684]? = some (.cells #[.int .i64 t678, .int .i64 t679, .int .i64 t680, .int .i64 t681, .int .i64 t682, .int .i64 t683] 29 (0, 0))) ∧ Aside0 (wc.heap[gb689]? = some (.cells #[.int .i64 t685, .int .i64 t686] 27 (0, 0))) ∧ Aside0 (wc.heap[gb694]? = some (.cells #[.int .i64 t690, .int .i64 t691] 27 (0, 0))) ∧ Aside0 (wc.heap[gb703]? = some (.cells #[.int .i64 t696, .int .i64 t697, .int .i64 t698, .int .i64 t699, .int .i64 t700, .int .i64 t701] 29 (0, 0))) ∧ Aside0 (wc.heap[gb712]? = some (.cells #[.int .i64 t705, .int .i64 t706, .int .i64 t707, .int .i64 t708, .int .i64 t709, .int .i64 t710] 29 (0, 0))) ∧ Aside0 (wc.heap[gb720]? = some (.cells #[.int .i64 t713, .int .i64 t714, .int .i64 t715, .int .i64 t716, .int .i64 t717, .int .i64 t718] 29 (0, 0))) ∧ Aside0 (Below w.heap.size w wc))
  case first =>
   have H := HC12.out
   clear HC12
   by_cases c50 : t688 = t693
   ·rw [if_pos c50] at H
    have c50b0 : (t688 == t693) = true := beq_iff_eq.mpr c50
    have c50b1 : (t688 != t693) = false := bne_eq_false_iff_eq.mpr c50
    clear c50
    (first | rw [c50b0] | (simp only [i64_w, i32_w]; rw [c50b0]) | skip)
    by_cases c51 : (!(t685 == t690) || (!(t686 == t691))) = true
    ·rw [if_pos c51] at H
     have c51b0 := c51
     clear c51
     exact absurd H (laws_FnCentres.j0_dead _ _ _ _ _ _ _ _ _ _ _)
    ·rw [if_neg c51] at H
     have c51b0 : (!(t685 == t690) || (!(t686 == t691))) = false := by simpa using c51
     clear c51
     by_cases c63 : t687 = t692
     ·rw [if_pos c63] at H
      have c63b0 : (t687 == t692) = true := beq_iff_eq.mpr c63
      have c63b1 : (t687 != t692) = false := bne_eq_false_iff_eq.mpr c63
      clear c63
      obtain ⟨t721, A64, H⟩ := ob H
      try dsimp only at H
      by_cases c65 : t695.toList = t721.toList
      ·rw [if_pos c65] at H
       have c65b0 : (t695.toList == t721.toList) = true := beq_iff_eq.mpr c65
       have c65b1 : (t695.toList != t721.toList) = false := bne_eq_false_iff_eq.mpr c65
       clear c65
       by_cases c66 : (t702 != (t695.toList != ([] : List UInt8))) = true
       ·rw [if_pos c66] at H
        have c66b0 := c66
        (try (have c66b1 : decide (t702 = (t695.toList != ([] : List UInt8))) = false := by simpa using c66))
        (try (have c66b2 : (t702 == (t695.toList != ([] : List UInt8))) = false := by simpa using c66))
        (try (have c66b3 : ¬ (t702 = (t695.toList != ([] : List UInt8))) := by simpa using c66))
        clear c66
        exact absurd H (laws_FnCentres.j0_dead _ _ _ _ _ _ _ _ _ _ _)
       ·rw [if_neg c66] at H
        have c66b0 : (t702 != (t695.toList != ([] : List UInt8))) = false := by simpa using c66
        (try (have c66b1 : decide (t702 = (t695.toList != ([] : List UInt8))) = true := by simpa using c66))
        (try (have c66b2 : (t702 == (t695.toList != ([] : List UInt8))) = true := by simpa using c66))
        clear c66
        by_cases c83 : t702 = true
        ·subst c83
         have c66z0 : (t695.toList != ([] : List UInt8)) = true := by revert c66b0; generalize (t695.toList != ([] : List UInt8)) = b_; cases b_ <;> simp
         have c66z1 : (t695.toList == ([] : List UInt8)) = false := by rw [beq_eq_false_iff_ne]; exact bne_iff_ne.mp c66z0
         have c66z2 : (t695.toList = ([] : List UInt8)) = False := eq_false (bne_iff_ne.mp c66z0)
         replace H := ifT H
         by_cases c84 : ((!(t696 == t678) || (!(t697 == t679) || (!(t698 == t680) || (!(t699 == t681))))) || ((!(t700 == t682) || (!(t701 == t683))))) = true
         ·rw [if_pos c84] at H
          have c84b0 := c84
          clear c84
          exact absurd H (laws_FnCentres.j0_dead _ _ _ _ _ _ _ _ _ _ _)
         ·rw [if_neg c84] at H
          have c84b0 : ((!(t696 == t678) || (!(t697 == t679) || (!(t698 == t680) || (!(t699 == t681))))) || ((!(t700 == t682) || (!(t701 == t683))))) = false := by simpa using c84
          clear c84
          by_cases c105 : ((!(t705 == t713) || (!(t706 == t714) || (!(t707 == t715) || (!(t708 == t716))))) || ((!(t709 == t717) || (!(t710 == t718))))) = true
          ·rw [if_pos c105] at H
           have c105b0 := c105
           clear c105
           exact absurd H (laws_FnCentres.j0_dead _ _ _ _ _ _ _ _ _ _ _)
          ·rw [if_neg c105] at H
           have c105b0 : ((!(t705 == t713) || (!(t706 == t714) || (!(t707 == t715) || (!(t708 == t716))))) || ((!(t709 == t717) || (!(t710 == t718))))) = false := by simpa using c105
           clear c105
           by_cases c129 : (t711 != t719) = true
           ·rw [if_pos c129] at H
            have c129b0 := c129
            (try (have c129b1 : decide (t711 = t719) = false := by simpa using c129))
            (try (have c129b2 : (t711 == t719) = false := by simpa using c129))
            (try (have c129b3 : ¬ (t711 = t719) := by simpa using c129))
            clear c129
            exact absurd H (laws_FnCentres.j0_dead _ _ _ _ _ _ _ _ _ _ _)
           ·rw [if_neg c129] at H
            have c129b0 : (t711 != t719) = false := by simpa using c129
            (try (have c129b1 : decide (t711 = t719) = true := by simpa using c129))
            (try (have c129b2 : (t711 == t719) = true := by simpa using c129))
            clear c129
            by_cases c153 : t711 = true
            ·subst c153
             replace H := ifT H
             obtain ⟨t722, A154, H⟩ := ob H
             try dsimp only at H
             have H' := Aside0.mk H
             clear H
             have hnb155 := NB689_684.out
             have hnc155 := NB684_689.out
             have hnb156 := NB689_694.out
             have hnc156 := NB694_689.out
             have hnb157 := NB689_703.out
             have hnc157 := NB703_689.out
             have hnb158 := NB689_712.out
             have hnc158 := NB712_689.out
             have hnb159 := NB689_720.out
             have hnc159 := NB720_689.out
             obtain ⟨hcz160_0, hcz160_1, hfz160_0, hfz160_1⟩ := bz2 BK689
             have hnb161 := NB694_684.out
             have hnc161 := NB684_694.out
             have hnb162 := NB694_703.out
             have hnc162 := NB703_694.out
             have hnb163 := NB694_712.out
             have hnc163 := NB712_694.out
             have hnb164 := NB694_720.out
             have hnc164 := NB720_694.out
             obtain ⟨hcz165_0, hcz165_1, hfz165_0, hfz165_1⟩ := bz2 BK694
             have hnb166 := NB684_703.out
             have hnc166 := NB703_684.out
             have hnb167 := NB684_712.out
             have hnc167 := NB712_684.out
             have hnb168 := NB684_720.out
             have hnc168 := NB720_684.out
             obtain ⟨hcz169_0, hcz169_1, hcz169_2, hcz169_3, hcz169_4, hcz169_5, hfz169_0, hfz169_1, hfz169_2, hfz169_3, hfz169_4, hfz169_5⟩ := bz6 BK684
             go_wp2_with (first | (go_at_call 14; (with_reducible refine (spec_MotionText.calls _ _ _ _ _ _ _ _ _ A64.out).mono ?_); rintro e w170 ⟨rfl, hb⟩; replace BK684 := asd (blk_below (g := gb684) (o := .cells #[.int .i64 t678, .int .i64 t679, .int .i64 t680, .int .i64 t681, .int .i64 t682, .int .i64 t683] 29 (0, 0)) (bq1 BK684 NB684_720) hb); replace BK689 := asd (blk_below (g := gb689) (o := .cells #[.int .i64 t685, .int .i64 t686] 27 (0, 0)) (bq1 BK689 NB689_720) hb); replace BK694 := asd (blk_below (g := gb694) (o := .cells #[.int .i64 t690, .int .i64 t691] 27 (0, 0)) (bq1 BK694 NB694_720) hb); replace BK703 := asd (blk_below (g := gb703) (o := .cells #[.int .i64 t696, .int .i64 t697, .int .i64 t698, .int .i64 t699, .int .i64 t700, .int .i64 t701] 29 (0, 0)) (bq1 BK703 NB703_720) hb); replace BK712 := asd (blk_below (g := gb712) (o := .cells #[.int .i64 t705, .int .i64 t706, .int .i64 t707, .int .i64 t708, .int .i64 t709, .int .i64 t710] 29 (0, 0)) (bq1 BK712 NB712_720) hb); replace BK720 := asd (blk_below (g := gb720) (o := .cells #[.int .i64 t713, .int .i64 t714, .int .i64 t715, .int .i64 t716, .int .i64 t717, .int .i64 t718] 29 (0, 0)) (bq0 BK720) hb); replace HB := asd (below_step (by repeat (first | (with_reducible first | exact HB.out | apply below_alloc | apply pw_below_drewN | apply below_drew1 | refine below_set ?_ GE684.out | refine below_set ?_ GE689.out | refine below_set ?_ GE694.out | refine below_set ?_ GE703.out | refine below_set ?_ GE712.out | refine below_set ?_ GE720.out) | exact HB.out)) hb); (try clear hb); have hnb171 := NB703_712.out; have hnc171 := NB712_703.out; have hnb172 := NB703_720.out; have hnc172 := NB720_703.out; obtain ⟨hcz173_0, hcz173_1, hcz173_2, hcz173_3, hcz173_4, hcz173_5, hfz173_0, hfz173_1, hfz173_2, hfz173_3, hfz173_4, hfz173_5⟩ := bz6 BK703; obtain ⟨hcz174_0, hcz174_1, hcz174_2, hcz174_3, hcz174_4, hcz174_5, hfz174_0, hfz174_1, hfz174_2, hfz174_3, hfz174_4, hfz174_5⟩ := bz6 BK684; have hnb175 := NB712_720.out; have hnc175 := NB720_712.out; obtain ⟨hcz176_0, hcz176_1, hcz176_2, hcz176_3, hcz176_4, hcz176_5, hfz176_0, hfz176_1, hfz176_2, hfz176_3, hfz176_4, hfz176_5⟩ := bz6 BK712; obtain ⟨hcz177_0, hcz177_1, hcz177_2, hcz177_3, hcz177_4, hcz177_5, hfz177_0, hfz177_1, hfz177_2, hfz177_3, hfz177_4, hfz177_5⟩ := bz6 BK720) | (go_at_call 10; (with_reducible refine (impl_MotionText.calls _ _ _ _ _ _ _ _ _ (texts.tabB HTAB.out (by repeat (first | (with_reducible first | exact HB.out | exact Below.refl _ _ | apply below_alloc | apply pw_below_drewN | apply below_drew1 | refine below_set ?_ GE684.out | refine below_set ?_ GE689.out | refine below_set ?_ GE694.out | refine below_set ?_ GE703.out | refine below_set ?_ GE712.out | refine below_set ?_ GE720.out) | exact HB.out))) A154.out).mono ?_); rintro e w178 ⟨rfl, hb⟩; replace BK684 := bB BK684 hb; replace BK689 := bB BK689 hb; replace BK694 := bB BK694 hb; replace BK703 := bB BK703 hb; replace BK712 := bB BK712 hb; replace BK720 := bB BK720 hb; replace HB := asd (below_step (by repeat (first | (with_reducible first | exact HB.out | apply below_alloc | apply pw_below_drewN | apply below_drew1 | refine below_set ?_ GE684.out | refine below_set ?_ GE689.out | refine below_set ?_ GE694.out | refine below_set ?_ GE703.out | refine below_set ?_ GE712.out | refine below_set ?_ GE720.out) | exact HB.out)) hb); (try clear hb)))
             go_meet
             case rel => exact ⟨_, ((t722.toList != t704.toList)), (by first | rfl | (simp; done) | (simp [*]; done)), H', ⟨by first | omega | exact Nat.le_refl _⟩, ⟨bkp BK684⟩, ⟨bkp BK689⟩, ⟨bkp BK694⟩, ⟨bkp BK703⟩, ⟨bkp BK712⟩, ⟨bkp BK720⟩, ⟨by repeat (first | (with_reducible first | exact HB.out | apply below_alloc | apply pw_below_drewN | apply below_drew1 | refine below_set ?_ GE684.out | refine below_set ?_ GE689.out | refine below_set ?_ GE694.out | refine below_set ?_ GE703.out | refine below_set ?_ GE712.out | refine below_set ?_ GE720.out) | exact HB.out)⟩⟩
            ·replace c153 := Bool.eq_false_iff.mpr c153
             subst c153
             replace H := ifF H
             have H' := Aside0.mk H
             clear H
             have hnb179 := NB689_684.out
             have hnc179 := NB684_689.out
             have hnb180 := NB689_694.out
             have hnc180 := NB694_689.out
             have hnb181 := NB689_703.out
             have hnc181 := NB703_689.out
             have hnb182 := NB689_712.out
             have hnc182 := NB712_689.out
             have hnb183 := NB689_720.out
             have hnc183 := NB720_689.out
             obtain ⟨hcz184_0, hcz184_1, hfz184_0, hfz184_1⟩ := bz2 BK689
             have hnb185 := NB694_684.out
             have hnc185 := NB684_694.out
             have hnb186 := NB694_703.out
             have hnc186 := NB703_694.out
             have hnb187 := NB694_712.out
             have hnc187 := NB712_694.out
             have hnb188 := NB694_720.out
             have hnc188 := NB720_694.out
             obtain ⟨hcz189_0, hcz189_1, hfz189_0, hfz189_1⟩ := bz2 BK694
             have hnb190 := NB684_703.out
             have hnc190 := NB703_684.out
             have hnb191 := NB684_712.out
             have hnc191 := NB712_684.out
             have hnb192 := NB684_720.out
             have hnc192 := NB720_684.out
             obtain ⟨hcz193_0, hcz193_1, hcz193_2, hcz193_3, hcz193_4, hcz193_5, hfz193_0, hfz193_1, hfz193_2, hfz193_3, hfz193_4, hfz193_5⟩ := bz6 BK684
             go_wp2_with (first | (go_at_call 14; (with_reducible refine (spec_MotionText.calls _ _ _ _ _ _ _ _ _ A64.out).mono ?_); rintro e w194 ⟨rfl, hb⟩; replace BK684 := asd (blk_below (g := gb684) (o := .cells #[.int .i64 t678, .int .i64 t679, .int .i64 t680, .int .i64 t681, .int .i64 t682, .int .i64 t683] 29 (0, 0)) (bq1 BK684 NB684_720) hb); replace BK689 := asd (blk_below (g := gb689) (o := .cells #[.int .i64 t685, .int .i64 t686] 27 (0, 0)) (bq1 BK689 NB689_720) hb); replace BK694 := asd (blk_below (g := gb694) (o := .cells #[.int .i64 t690, .int .i64 t691] 27 (0, 0)) (bq1 BK694 NB694_720) hb); replace BK703 := asd (blk_below (g := gb703) (o := .cells #[.int .i64 t696, .int .i64 t697, .int .i64 t698, .int .i64 t699, .int .i64 t700, .int .i64 t701] 29 (0, 0)) (bq1 BK703 NB703_720) hb); replace BK712 := asd (blk_below (g := gb712) (o := .cells #[.int .i64 t705, .int .i64 t706, .int .i64 t707, .int .i64 t708, .int .i64 t709, .int .i64 t710] 29 (0, 0)) (bq1 BK712 NB712_720) hb); replace BK720 := asd (blk_below (g := gb720) (o := .cells #[.int .i64 t713, .int .i64 t714, .int .i64 t715, .int .i64 t716, .int .i64 t717, .int .i64 t718] 29 (0, 0)) (bq0 BK720) hb); replace HB := asd (below_step (by repeat (first | (with_reducible first | exact HB.out | apply below_alloc | apply pw_below_drewN | apply below_drew1 | refine below_set ?_ GE684.out | refine below_set ?_ GE689.out | refine below_set ?_ GE694.out | refine below_set ?_ GE703.out | refine below_set ?_ GE712.out | refine below_set ?_ GE720.out) | exact HB.out)) hb); (try clear hb); have hnb195 := NB703_712.out; have hnc195 := NB712_703.out; have hnb196 := NB703_720.out; have hnc196 := NB720_703.out; obtain ⟨hcz197_0, hcz197_1, hcz197_2, hcz197_3, hcz197_4, hcz197_5, hfz197_0, hfz197_1, hfz197_2, hfz197_3, hfz197_4, hfz197_5⟩ := bz6 BK703; obtain ⟨hcz198_0, hcz198_1, hcz198_2, hcz198_3, hcz198_4, hcz198_5, hfz198_0, hfz198_1, hfz198_2, hfz198_3, hfz198_4, hfz198_5⟩ := bz6 BK684; have hnb199 := NB712_720.out; have hnc199 := NB720_712.out; obtain ⟨hcz200_0, hcz200_1, hcz200_2, hcz200_3, hcz200_4, hcz200_5, hfz200_0, hfz200_1, hfz200_2, hfz200_3, hfz200_4, hfz200_5⟩ := bz6 BK712; obtain ⟨hcz201_0, hcz201_1, hcz201_2, hcz201_3, hcz201_4, hcz201_5, hfz201_0, hfz201_1, hfz201_2, hfz201_3, hfz201_4, hfz201_5⟩ := bz6 BK720))
             go_meet
             case rel => exact ⟨_, (false), (by first | rfl | (simp; done) | (simp [*]; done)), H', ⟨by first | omega | exact Nat.le_refl _⟩, ⟨bkp BK684⟩, ⟨bkp BK689⟩, ⟨bkp BK694⟩, ⟨bkp BK703⟩, ⟨bkp BK712⟩, ⟨bkp BK720⟩, ⟨by repeat (first | (with_reducible first | exact HB.out | apply below_alloc | apply pw_below_drewN | apply below_drew1 | refine below_set ?_ GE684.out | refine below_set ?_ GE689.out | refine below_set ?_ GE694.out | refine below_set ?_ GE703.out | refine below_set ?_ GE712.out | refine below_set ?_ GE720.out) | exact HB.out)⟩⟩
        ·replace c83 := Bool.eq_false_iff.mpr c83
         subst c83
         have c66z0 : (t695.toList != ([] : List UInt8)) = false := by revert c66b0; generalize (t695.toList != ([] : List UInt8)) = b_; cases b_ <;> simp
         have c66z1 : (t695.toList == ([] : List UInt8)) = true := by rw [beq_iff_eq]; exact bne_eq_false_iff_eq.mp c66z0
         have c66z2 : (t695.toList = ([] : List UInt8)) = True := eq_true (bne_eq_false_iff_eq.mp c66z0)
         replace H := ifF H
         by_cases c202 : ((!(t705 == t713) || (!(t706 == t714) || (!(t707 == t715) || (!(t708 == t716))))) || ((!(t709 == t717) || (!(t710 == t718))))) = true
         ·rw [if_pos c202] at H
          have c202b0 := c202
          clear c202
          exact absurd H (laws_FnCentres.j0_dead _ _ _ _ _ _ _ _ _ _ _)
         ·rw [if_neg c202] at H
          have c202b0 : ((!(t705 == t713) || (!(t706 == t714) || (!(t707 == t715) || (!(t708 == t716))))) || ((!(t709 == t717) || (!(t710 == t718))))) = false := by simpa using c202
          clear c202
          by_cases c224 : (t711 != t719) = true
          ·rw [if_pos c224] at H
           have c224b0 := c224
           (try (have c224b1 : decide (t711 = t719) = false := by simpa using c224))
           (try (have c224b2 : (t711 == t719) = false := by simpa using c224))
           (try (have c224b3 : ¬ (t711 = t719) := by simpa using c224))
           clear c224
           exact absurd H (laws_FnCentres.j0_dead _ _ _ _ _ _ _ _ _ _ _)
          ·rw [if_neg c224] at H
           have c224b0 : (t711 != t719) = false := by simpa using c224
           (try (have c224b1 : decide (t711 = t719) = true := by simpa using c224))
           (try (have c224b2 : (t711 == t719) = true := by simpa using c224))
           clear c224
           by_cases c246 : t711 = true
           ·subst c246
            replace H := ifT H
            obtain ⟨t723, A247, H⟩ := ob H
            try dsimp only at H
            have H' := Aside0.mk H
            clear H
            have hnb248 := NB689_684.out
            have hnc248 := NB684_689.out
            have hnb249 := NB689_694.out
            have hnc249 := NB694_689.out
            have hnb250 := NB689_703.out
            have hnc250 := NB703_689.out
            have hnb251 := NB689_712.out
            have hnc251 := NB712_689.out
            have hnb252 := NB689_720.out
            have hnc252 := NB720_689.out
            obtain ⟨hcz253_0, hcz253_1, hfz253_0, hfz253_1⟩ := bz2 BK689
            have hnb254 := NB694_684.out
            have hnc254 := NB684_694.out
            have hnb255 := NB694_703.out
            have hnc255 := NB703_694.out
            have hnb256 := NB694_712.out
            have hnc256 := NB712_694.out
            have hnb257 := NB694_720.out
            have hnc257 := NB720_694.out
            obtain ⟨hcz258_0, hcz258_1, hfz258_0, hfz258_1⟩ := bz2 BK694
            have hnb259 := NB684_703.out
            have hnc259 := NB703_684.out
            have hnb260 := NB684_712.out
            have hnc260 := NB712_684.out
            have hnb261 := NB684_720.out
            have hnc261 := NB720_684.out
            obtain ⟨hcz262_0, hcz262_1, hcz262_2, hcz262_3, hcz262_4, hcz262_5, hfz262_0, hfz262_1, hfz262_2, hfz262_3, hfz262_4, hfz262_5⟩ := bz6 BK684
            go_wp2_with (first | (go_at_call 14; (with_reducible refine (spec_MotionText.calls _ _ _ _ _ _ _ _ _ A64.out).mono ?_); rintro e w263 ⟨rfl, hb⟩; replace BK684 := asd (blk_below (g := gb684) (o := .cells #[.int .i64 t678, .int .i64 t679, .int .i64 t680, .int .i64 t681, .int .i64 t682, .int .i64 t683] 29 (0, 0)) (bq1 BK684 NB684_720) hb); replace BK689 := asd (blk_below (g := gb689) (o := .cells #[.int .i64 t685, .int .i64 t686] 27 (0, 0)) (bq1 BK689 NB689_720) hb); replace BK694 := asd (blk_below (g := gb694) (o := .cells #[.int .i64 t690, .int .i64 t691] 27 (0, 0)) (bq1 BK694 NB694_720) hb); replace BK703 := asd (blk_below (g := gb703) (o := .cells #[.int .i64 t696, .int .i64 t697, .int .i64 t698, .int .i64 t699, .int .i64 t700, .int .i64 t701] 29 (0, 0)) (bq1 BK703 NB703_720) hb); replace BK712 := asd (blk_below (g := gb712) (o := .cells #[.int .i64 t705, .int .i64 t706, .int .i64 t707, .int .i64 t708, .int .i64 t709, .int .i64 t710] 29 (0, 0)) (bq1 BK712 NB712_720) hb); replace BK720 := asd (blk_below (g := gb720) (o := .cells #[.int .i64 t713, .int .i64 t714, .int .i64 t715, .int .i64 t716, .int .i64 t717, .int .i64 t718] 29 (0, 0)) (bq0 BK720) hb); replace HB := asd (below_step (by repeat (first | (with_reducible first | exact HB.out | apply below_alloc | apply pw_below_drewN | apply below_drew1 | refine below_set ?_ GE684.out | refine below_set ?_ GE689.out | refine below_set ?_ GE694.out | refine below_set ?_ GE703.out | refine below_set ?_ GE712.out | refine below_set ?_ GE720.out) | exact HB.out)) hb); (try clear hb); have hnb264 := NB712_703.out; have hnc264 := NB703_712.out; have hnb265 := NB712_720.out; have hnc265 := NB720_712.out; obtain ⟨hcz266_0, hcz266_1, hcz266_2, hcz266_3, hcz266_4, hcz266_5, hfz266_0, hfz266_1, hfz266_2, hfz266_3, hfz266_4, hfz266_5⟩ := bz6 BK712; have hnb267 := NB720_703.out; have hnc267 := NB703_720.out; obtain ⟨hcz268_0, hcz268_1, hcz268_2, hcz268_3, hcz268_4, hcz268_5, hfz268_0, hfz268_1, hfz268_2, hfz268_3, hfz268_4, hfz268_5⟩ := bz6 BK720) | (go_at_call 10; (with_reducible refine (impl_MotionText.calls _ _ _ _ _ _ _ _ _ (texts.tabB HTAB.out (by repeat (first | (with_reducible first | exact HB.out | exact Below.refl _ _ | apply below_alloc | apply pw_below_drewN | apply below_drew1 | refine below_set ?_ GE684.out | refine below_set ?_ GE689.out | refine below_set ?_ GE694.out | refine below_set ?_ GE703.out | refine below_set ?_ GE712.out | refine below_set ?_ GE720.out) | exact HB.out))) A247.out).mono ?_); rintro e w269 ⟨rfl, hb⟩; replace BK684 := bB BK684 hb; replace BK689 := bB BK689 hb; replace BK694 := bB BK694 hb; replace BK703 := bB BK703 hb; replace BK712 := bB BK712 hb; replace BK720 := bB BK720 hb; replace HB := asd (below_step (by repeat (first | (with_reducible first | exact HB.out | apply below_alloc | apply pw_below_drewN | apply below_drew1 | refine below_set ?_ GE684.out | refine below_set ?_ GE689.out | refine below_set ?_ GE694.out | refine below_set ?_ GE703.out | refine below_set ?_ GE712.out | refine below_set ?_ GE720.out) | exact HB.out)) hb); (try clear hb)))
            go_meet
            case rel => exact ⟨_, ((t723.toList != t704.toList)), (by first | rfl | (simp; done) | (simp [*]; done)), H', ⟨by first | omega | exact Nat.le_refl _⟩, ⟨bkp BK684⟩, ⟨bkp BK689⟩, ⟨bkp BK694⟩, ⟨bkp BK703⟩, ⟨bkp BK712⟩, ⟨bkp BK720⟩, ⟨by repeat (first | (with_reducible first | exact HB.out | apply below_alloc | apply pw_below_drewN | apply below_drew1 | refine below_set ?_ GE684.out | refine below_set ?_ GE689.out | refine below_set ?_ GE694.out | refine below_set ?_ GE703.out | refine below_set ?_ GE712.out | refine below_set ?_ GE720.out) | exact HB.out)⟩⟩
           ·replace c246 := Bool.eq_false_iff.mpr c246
            subst c246
            replace H := ifF H
            have H' := Aside0.mk H
            clear H
            have hnb270 := NB689_684.out
            have hnc270 := NB684_689.out
            have hnb271 := NB689_694.out
            have hnc271 := NB694_689.out
            have hnb272 := NB689_703.out
            have hnc272 := NB703_689.out
            have hnb273 := NB689_712.out
            have hnc273 := NB712_689.out
            have hnb274 := NB689_720.out
            have hnc274 := NB720_689.out
            obtain ⟨hcz275_0, hcz275_1, hfz275_0, hfz275_1⟩ := bz2 BK689
            have hnb276 := NB694_684.out
            have hnc276 := NB684_694.out
            have hnb277 := NB694_703.out
            have hnc277 := NB703_694.out
            have hnb278 := NB694_712.out
            have hnc278 := NB712_694.out
            have hnb279 := NB694_720.out
            have hnc279 := NB720_694.out
            obtain ⟨hcz280_0, hcz280_1, hfz280_0, hfz280_1⟩ := bz2 BK694
            have hnb281 := NB684_703.out
            have hnc281 := NB703_684.out
            have hnb282 := NB684_712.out
            have hnc282 := NB712_684.out
            have hnb283 := NB684_720.out
            have hnc283 := NB720_684.out
            obtain ⟨hcz284_0, hcz284_1, hcz284_2, hcz284_3, hcz284_4, hcz284_5, hfz284_0, hfz284_1, hfz284_2, hfz284_3, hfz284_4, hfz284_5⟩ := bz6 BK684
            go_wp2_with (first | (go_at_call 14; (with_reducible refine (spec_MotionText.calls _ _ _ _ _ _ _ _ _ A64.out).mono ?_); rintro e w285 ⟨rfl, hb⟩; replace BK684 := asd (blk_below (g := gb684) (o := .cells #[.int .i64 t678, .int .i64 t679, .int .i64 t680, .int .i64 t681, .int .i64 t682, .int .i64 t683] 29 (0, 0)) (bq1 BK684 NB684_720) hb); replace BK689 := asd (blk_below (g := gb689) (o := .cells #[.int .i64 t685, .int .i64 t686] 27 (0, 0)) (bq1 BK689 NB689_720) hb); replace BK694 := asd (blk_below (g := gb694) (o := .cells #[.int .i64 t690, .int .i64 t691] 27 (0, 0)) (bq1 BK694 NB694_720) hb); replace BK703 := asd (blk_below (g := gb703) (o := .cells #[.int .i64 t696, .int .i64 t697, .int .i64 t698, .int .i64 t699, .int .i64 t700, .int .i64 t701] 29 (0, 0)) (bq1 BK703 NB703_720) hb); replace BK712 := asd (blk_below (g := gb712) (o := .cells #[.int .i64 t705, .int .i64 t706, .int .i64 t707, .int .i64 t708, .int .i64 t709, .int .i64 t710] 29 (0, 0)) (bq1 BK712 NB712_720) hb); replace BK720 := asd (blk_below (g := gb720) (o := .cells #[.int .i64 t713, .int .i64 t714, .int .i64 t715, .int .i64 t716, .int .i64 t717, .int .i64 t718] 29 (0, 0)) (bq0 BK720) hb); replace HB := asd (below_step (by repeat (first | (with_reducible first | exact HB.out | apply below_alloc | apply pw_below_drewN | apply below_drew1 | refine below_set ?_ GE684.out | refine below_set ?_ GE689.out | refine below_set ?_ GE694.out | refine below_set ?_ GE703.out | refine below_set ?_ GE712.out | refine below_set ?_ GE720.out) | exact HB.out)) hb); (try clear hb); have hnb286 := NB712_703.out; have hnc286 := NB703_712.out; have hnb287 := NB712_720.out; have hnc287 := NB720_712.out; obtain ⟨hcz288_0, hcz288_1, hcz288_2, hcz288_3, hcz288_4, hcz288_5, hfz288_0, hfz288_1, hfz288_2, hfz288_3, hfz288_4, hfz288_5⟩ := bz6 BK712; have hnb289 := NB720_703.out; have hnc289 := NB703_720.out; obtain ⟨hcz290_0, hcz290_1, hcz290_2, hcz290_3, hcz290_4, hcz290_5, hfz290_0, hfz290_1, hfz290_2, hfz290_3, hfz290_4, hfz290_5⟩ := bz6 BK720))
            go_meet
            case rel => exact ⟨_, (false), (by first | rfl | (simp; done) | (simp [*]; done)), H', ⟨by first | omega | exact Nat.le_refl _⟩, ⟨bkp BK684⟩, ⟨bkp BK689⟩, ⟨bkp BK694⟩, ⟨bkp BK703⟩, ⟨bkp BK712⟩, ⟨bkp BK720⟩, ⟨by repeat (first | (with_reducible first | exact HB.out | apply below_alloc | apply pw_below_drewN | apply below_drew1 | refine below_set ?_ GE684.out | refine below_set ?_ GE689.out | refine below_set ?_ GE694.out | refine below_set ?_ GE703.out | refine below_set ?_ GE712.out | refine below_set ?_ GE720.out) | exact HB.out)⟩⟩
      ·rw [if_neg c65] at H
       have c65b0 : (t695.toList == t721.toList) = false := beq_eq_false_iff_ne.mpr c65
       have c65b1 : (t695.toList != t721.toList) = true := bne_iff_ne.mpr c65
       exact absurd H (laws_FnCentres.j0_dead _ _ _ _ _ _ _ _ _ _ _)
     ·rw [if_neg c63] at H
      have c63b0 : (t687 == t692) = false := beq_eq_false_iff_ne.mpr c63
      have c63b1 : (t687 != t692) = true := bne_iff_ne.mpr c63
      exact absurd H (laws_FnCentres.j0_dead _ _ _ _ _ _ _ _ _ _ _)
   ·rw [if_neg c50] at H
    have c50b0 : (t688 == t693) = false := beq_eq_false_iff_ne.mpr c50
    have c50b1 : (t688 != t693) = true := bne_iff_ne.mpr c50
    (first | rw [c50b0] | (simp only [i64_w, i32_w]; rw [c50b0]) | skip)
    exact absurd H (laws_FnCentres.j0_dead _ _ _ _ _ _ _ _ _ _ _)
  case rest =>
   clear HC12
   try clear c1
   try clear c2
   try clear p2
   try clear c3
   try clear c5
   try clear c6
   try clear c8
   try clear c9
   try clear c10
   try clear c11
   try clear c12
   try clear c13
   try clear c14
   try clear c15
   try clear c16
   try clear c17
   try clear c18
   try clear c19
   try clear c20
   try clear c21
   try clear c22
   try clear c23
   try clear c24
   try clear c25
   try clear c26
   try clear c27
   try clear c28
   try clear c29
   try clear c30
   try clear c31
   try clear c50
   try clear c50b0
   try clear c50b1
   try clear c63
   try clear c63b0
   try clear c63b1
   try clear c65
   try clear c65b0
   try clear c65b1
   try clear c83
   try clear c84
   try clear c84b0
   try clear c92
   try clear c93
   try clear c94
   try clear c96
   try clear c97
   try clear c98
   try clear c101
   try clear c102
   try clear c105
   try clear c105b0
   try clear c106
   try clear c107
   try clear c108
   try clear c109
   try clear c110
   try clear c112
   try clear c113
   try clear c114
   try clear c115
   try clear c117
   try clear c118
   try clear c119
   try clear c122
   try clear c123
   try clear c126
   try clear c129
   try clear c129b0
   try clear c129b1
   try clear c129b2
   try clear c130
   try clear c131
   try clear c132
   try clear c133
   try clear c134
   try clear c136
   try clear c137
   try clear c138
   try clear c139
   try clear c141
   try clear c142
   try clear c143
   try clear c146
   try clear c147
   try clear c150
   try clear c153
   try clear c155
   try clear c156
   try clear c157
   try clear c158
   try clear c159
   try clear c161
   try clear c162
   try clear c163
   try clear c164
   try clear c166
   try clear c167
   try clear c168
   try clear c171
   try clear c172
   try clear c175
   try clear c179
   try clear c180
   try clear c181
   try clear c182
   try clear c183
   try clear c185
   try clear c186
   try clear c187
   try clear c188
   try clear c190
   try clear c191
   try clear c192
   try clear c195
   try clear c196
   try clear c199
   try clear c202
   try clear c202b0
   try clear c203
   try clear c204
   try clear c205
   try clear c206
   try clear c207
   try clear c209
   try clear c210
   try clear c211
   try clear c212
   try clear c214
   try clear c215
   try clear c216
   try clear c219
   try clear c220
   try clear c222
   try clear c224
   try clear c224b0
   try clear c224b1
   try clear c224b2
   try clear c225
   try clear c226
   try clear c227
   try clear c228
   try clear c229
   try clear c231
   try clear c232
   try clear c233
   try clear c234
   try clear c236
   try clear c237
   try clear c238
   try clear c241
   try clear c242
   try clear c244
   try clear c246
   try clear c248
   try clear c249
   try clear c250
   try clear c251
   try clear c252
   try clear c254
   try clear c255
   try clear c256
   try clear c257
   try clear c259
   try clear c260
   try clear c261
   try clear c264
   try clear c265
   try clear c267
   try clear c270
   try clear c271
   try clear c272
   try clear c273
   try clear c274
   try clear c276
   try clear c277
   try clear c278
   try clear c279
   try clear c281
   try clear c282
   try clear c283
   try clear c286
   try clear c287
   try clear c289
   try clear c291
   try clear c292
   try clear c293
   try clear c294
   try clear c295
   try clear c297
   try clear c298
   try clear c299
   try clear c300
   try clear c302
   try clear c303
   try clear c304
   try clear c307
   try clear c308
   try clear c309
   try clear c310
   try clear c311
   try clear c313
   try clear c314
   try clear c315
   try clear c316
   try clear hcz103_0
   try clear hcz103_1
   try clear hcz103_2
   try clear hcz103_3
   try clear hcz103_4
   try clear hcz103_5
   try clear hcz104_0
   try clear hcz104_1
   try clear hcz104_2
   try clear hcz104_3
   try clear hcz104_4
   try clear hcz104_5
   try clear hcz111_0
   try clear hcz111_1
   try clear hcz116_0
   try clear hcz116_1
   try clear hcz120_0
   try clear hcz120_1
   try clear hcz120_2
   try clear hcz120_3
   try clear hcz120_4
   try clear hcz120_5
   try clear hcz124_0
   try clear hcz124_1
   try clear hcz124_2
   try clear hcz124_3
   try clear hcz124_4
   try clear hcz124_5
   try clear hcz125_0
   try clear hcz125_1
   try clear hcz125_2
   try clear hcz125_3
   try clear hcz125_4
   try clear hcz125_5
   try clear hcz127_0
   try clear hcz127_1
   try clear hcz127_2
   try clear hcz127_3
   try clear hcz127_4
   try clear hcz127_5
   try clear hcz128_0
   try clear hcz128_1
   try clear hcz128_2
   try clear hcz128_3
   try clear hcz128_4
   try clear hcz128_5
   try clear hcz135_0
   try clear hcz135_1
   try clear hcz140_0
   try clear hcz140_1
   try clear hcz144_0
   try clear hcz144_1
   try clear hcz144_2
   try clear hcz144_3
   try clear hcz144_4
   try clear hcz144_5
   try clear hcz148_0
   try clear hcz148_1
   try clear hcz148_2
   try clear hcz148_3
   try clear hcz148_4
   try clear hcz148_5
   try clear hcz149_0
   try clear hcz149_1
   try clear hcz149_2
   try clear hcz149_3
   try clear hcz149_4
   try clear hcz149_5
   try clear hcz151_0
   try clear hcz151_1
   try clear hcz151_2
   try clear hcz151_3
   try clear hcz151_4
   try clear hcz151_5
   try clear hcz152_0
   try clear hcz152_1
   try clear hcz152_2
   try clear hcz152_3
   try clear hcz152_4
   try clear hcz152_5
   try clear hcz160_0
   try clear hcz160_1
   try clear hcz165_0
   try clear hcz165_1
   try clear hcz169_0
   try clear hcz169_1
   try clear hcz169_2
   try clear hcz169_3
   try clear hcz169_4
   try clear hcz169_5
   try clear hcz173_0
   try clear hcz173_1
   try clear hcz173_2
   try clear hcz173_3
   try clear hcz173_4
   try clear hcz173_5
   try clear hcz174_0
   try clear hcz174_1
   try clear hcz174_2
   try clear hcz174_3
   try clear hcz174_4
   try clear hcz174_5
   try clear hcz176_0
   try clear hcz176_1
   try clear hcz176_2
   try clear hcz176_3
   try clear hcz176_4
   try clear hcz176_5
   try clear hcz177_0
   try clear hcz177_1
   try clear hcz177_2
   try clear hcz177_3
   try clear hcz177_4
   try clear hcz177_5
   try clear hcz184_0
   try clear hcz184_1
   try clear hcz189_0
   try clear hcz189_1
   try clear hcz193_0
   try clear hcz193_1
   try clear hcz193_2
   try clear hcz193_3
   try clear hcz193_4
   try clear hcz193_5
   try clear hcz197_0
   try clear hcz197_1
   try clear hcz197_2
   try clear hcz197_3
   try clear hcz197_4
   try clear hcz197_5
   try clear hcz198_0
   try clear hcz198_1
   try clear hcz198_2
   try clear hcz198_3
   try clear hcz198_4
   try clear hcz198_5
   try clear hcz200_0
   try clear hcz200_1
   try clear hcz200_2
   try clear hcz200_3
   try clear hcz200_4
   try clear hcz200_5
   try clear hcz201_0
   try clear hcz201_1
   try clear hcz201_2
   try clear hcz201_3
   try clear hcz201_4
   try clear hcz201_5
   try clear hcz208_0
   try clear hcz208_1
   try clear hcz213_0
   try clear hcz213_1
   try clear hcz217_0
   try clear hcz217_1
   try clear hcz217_2
   try clear hcz217_3
   try clear hcz217_4
   try clear hcz217_5
   try clear hcz221_0
   try clear hcz221_1
   try clear hcz221_2
   try clear hcz221_3
   try clear hcz221_4
   try clear hcz221_5
   try clear hcz223_0
   try clear hcz223_1
   try clear hcz223_2
   try clear hcz223_3
   try clear hcz223_4
   try clear hcz223_5
   try clear hcz230_0
   try clear hcz230_1
   try clear hcz235_0
   try clear hcz235_1
   try clear hcz239_0
   try clear hcz239_1
   try clear hcz239_2
   try clear hcz239_3
   try clear hcz239_4
   try clear hcz239_5
   try clear hcz243_0
   try clear hcz243_1
   try clear hcz243_2
   try clear hcz243_3
   try clear hcz243_4
   try clear hcz243_5
   try clear hcz245_0
   try clear hcz245_1
   try clear hcz245_2
   try clear hcz245_3
   try clear hcz245_4
   try clear hcz245_5
   try clear hcz253_0
   try clear hcz253_1
   try clear hcz258_0
   try clear hcz258_1
   try clear hcz262_0
   try clear hcz262_1
   try clear hcz262_2
   try clear hcz262_3
   try clear hcz262_4
   try clear hcz262_5
   try clear hcz266_0
   try clear hcz266_1
   try clear hcz266_2
   try clear hcz266_3
   try clear hcz266_4
   try clear hcz266_5
   try clear hcz268_0
   try clear hcz268_1
   try clear hcz268_2
   try clear hcz268_3
   try clear hcz268_4
   try clear hcz268_5
   try clear hcz275_0
   try clear hcz275_1
   try clear hcz280_0
   try clear hcz280_1
   try clear hcz284_0
   try clear hcz284_1
   try clear hcz284_2
   try clear hcz284_3
   try clear hcz284_4
   try clear hcz284_5
   try clear hcz288_0
   try clear hcz288_1
   try clear hcz288_2
   try clear hcz288_3
   try clear hcz288_4
   try clear hcz288_5
   try clear hcz290_0
   try clear hcz290_1
   try clear hcz290_2
   try clear hcz290_3
   try clear hcz290_4
   try clear hcz290_5
   try clear hcz296_0
   try clear hcz296_1
   try clear hcz301_0
   try clear hcz301_1
   try clear hcz305_0
   try clear hcz305_1
   try clear hcz305_2
   try clear hcz305_3
   try clear hcz305_4
   try clear hcz305_5
   try clear hcz312_0
   try clear hcz312_1
   try clear hcz317_0
   try clear hcz317_1
   try clear hcz95_0
   try clear hcz95_1
   try clear hcz99_0
   try clear hcz99_1
   try clear hcz99_2
   try clear hcz99_3
   try clear hcz99_4
   try clear hcz99_5
   try clear hfz103_0
   try clear hfz103_1
   try clear hfz103_2
   try clear hfz103_3
   try clear hfz103_4
   try clear hfz103_5
   try clear hfz104_0
   try clear hfz104_1
   try clear hfz104_2
   try clear hfz104_3
   try clear hfz104_4
   try clear hfz104_5
   try clear hfz111_0
   try clear hfz111_1
   try clear hfz116_0
   try clear hfz116_1
   try clear hfz120_0
   try clear hfz120_1
   try clear hfz120_2
   try clear hfz120_3
   try clear hfz120_4
   try clear hfz120_5
   try clear hfz124_0
   try clear hfz124_1
   try clear hfz124_2
   try clear hfz124_3
   try clear hfz124_4
   try clear hfz124_5
   try clear hfz125_0
   try clear hfz125_1
   try clear hfz125_2
   try clear hfz125_3
   try clear hfz125_4
   try clear hfz125_5
   try clear hfz127_0
   try clear hfz127_1
   try clear hfz127_2
   try clear hfz127_3
   try clear hfz127_4
   try clear hfz127_5
   try clear hfz128_0
   try clear hfz128_1
   try clear hfz128_2
   try clear hfz128_3
   try clear hfz128_4
   try clear hfz128_5
   try clear hfz135_0
   try clear hfz135_1
   try clear hfz140_0
   try clear hfz140_1
   try clear hfz144_0
   try clear hfz144_1
   try clear hfz144_2
   try clear hfz144_3
   try clear hfz144_4
   try clear hfz144_5
   try clear hfz148_0
   try clear hfz148_1
   try clear hfz148_2
   try clear hfz148_3
   try clear hfz148_4
   try clear hfz148_5
   try clear hfz149_0
   try clear hfz149_1
   try clear hfz149_2
   try clear hfz149_3
   try clear hfz149_4
   try clear hfz149_5
   try clear hfz151_0
   try clear hfz151_1
   try clear hfz151_2
   try clear hfz151_3
   try clear hfz151_4
   try clear hfz151_5
   try clear hfz152_0
   try clear hfz152_1
   try clear hfz152_2
   try clear hfz152_3
   try clear hfz152_4
   try clear hfz152_5
   try clear hfz160_0
   try clear hfz160_1
   try clear hfz165_0
   try clear hfz165_1
   try clear hfz169_0
   try clear hfz169_1
   try clear hfz169_2
   try clear hfz169_3
   try clear hfz169_4
   try clear hfz169_5
   try clear hfz173_0
   try clear hfz173_1
   try clear hfz173_2
   try clear hfz173_3
   try clear hfz173_4
   try clear hfz173_5
   try clear hfz174_0
   try clear hfz174_1
   try clear hfz174_2
   try clear hfz174_3
   try clear hfz174_4
   try clear hfz174_5
   try clear hfz176_0
   try clear hfz176_1
   try clear hfz176_2
   try clear hfz176_3
   try clear hfz176_4
   try clear hfz176_5
   try clear hfz177_0
   try clear hfz177_1
   try clear hfz177_2
   try clear hfz177_3
   try clear hfz177_4
   try clear hfz177_5
   try clear hfz184_0
   try clear hfz184_1
   try clear hfz189_0
   try clear hfz189_1
   try clear hfz193_0
   try clear hfz193_1
   try clear hfz193_2
   try clear hfz193_3
   try clear hfz193_4
   try clear hfz193_5
   try clear hfz197_0
   try clear hfz197_1
   try clear hfz197_2
   try clear hfz197_3
   try clear hfz197_4
   try clear hfz197_5
   try clear hfz198_0
   try clear hfz198_1
   try clear hfz198_2
   try clear hfz198_3
   try clear hfz198_4
   try clear hfz198_5
   try clear hfz200_0
   try clear hfz200_1
   try clear hfz200_2
   try clear hfz200_3
   try clear hfz200_4
   try clear hfz200_5
   try clear hfz201_0
   try clear hfz201_1
   try clear hfz201_2
   try clear hfz201_3
   try clear hfz201_4
   try clear hfz201_5
   try clear hfz208_0
   try clear hfz208_1
   try clear hfz213_0
   try clear hfz213_1
   try clear hfz217_0
   try clear hfz217_1
   try clear hfz217_2
   try clear hfz217_3
   try clear hfz217_4
   try clear hfz217_5
   try clear hfz221_0
   try clear hfz221_1
   try clear hfz221_2
   try clear hfz221_3
   try clear hfz221_4
   try clear hfz221_5
   try clear hfz223_0
   try clear hfz223_1
   try clear hfz223_2
   try clear hfz223_3
   try clear hfz223_4
   try clear hfz223_5
   try clear hfz230_0
   try clear hfz230_1
   try clear hfz235_0
   try clear hfz235_1
   try clear hfz239_0
   try clear hfz239_1
   try clear hfz239_2
   try clear hfz239_3
   try clear hfz239_4
   try clear hfz239_5
   try clear hfz243_0
   try clear hfz243_1
   try clear hfz243_2
   try clear hfz243_3
   try clear hfz243_4
   try clear hfz243_5
   try clear hfz245_0
   try clear hfz245_1
   try clear hfz245_2
   try clear hfz245_3
   try clear hfz245_4
   try clear hfz245_5
   try clear hfz253_0
   try clear hfz253_1
   try clear hfz258_0
   try clear hfz258_1
   try clear hfz262_0
   try clear hfz262_1
   try clear hfz262_2
   try clear hfz262_3
   try clear hfz262_4
   try clear hfz262_5
   try clear hfz266_0
   try clear hfz266_1
   try clear hfz266_2
   try clear hfz266_3
   try clear hfz266_4
   try clear hfz266_5
   try clear hfz268_0
   try clear hfz268_1
   try clear hfz268_2
   try clear hfz268_3
   try clear hfz268_4
   try clear hfz268_5
   try clear hfz275_0
   try clear hfz275_1
   try clear hfz280_0
   try clear hfz280_1
   try clear hfz284_0
   try clear hfz284_1
   try clear hfz284_2
   try clear hfz284_3
   try clear hfz284_4
   try clear hfz284_5
   try clear hfz288_0
   try clear hfz288_1
   try clear hfz288_2
   try clear hfz288_3
   try clear hfz288_4
   try clear hfz288_5
   try clear hfz290_0
   try clear hfz290_1
   try clear hfz290_2
   try clear hfz290_3
   try clear hfz290_4
   try clear hfz290_5
   try clear hfz296_0
   try clear hfz296_1
   try clear hfz301_0
   try clear hfz301_1
   try clear hfz305_0
   try clear hfz305_1
   try clear hfz305_2
   try clear hfz305_3
   try clear hfz305_4
   try clear hfz305_5
   try clear hfz312_0
   try clear hfz312_1
   try clear hfz317_0
   try clear hfz317_1
   try clear hfz95_0
   try clear hfz95_1
   try clear hfz99_0
   try clear hfz99_1
   try clear hfz99_2
   try clear hfz99_3
   try clear hfz99_4
   try clear hfz99_5
   obtain ⟨kq, x106_11, rfl, HA, HJ11, BK684, BK689, BK694, BK703, BK712, BK720, HB⟩ := hcut
   cases kq with
   | zero => exact absurd HA.out (by simp [laws_FnCentres.j0])
   | succ kj11 =>
    have H := HA.out
    clear HA
    simp only [laws_FnCentres.j0] at H
    by_cases c318 : x106_11 = true
    ·subst c318
     replace H := ifT H
     exact absurd H (by simp)
    ·replace c318 := Bool.eq_false_iff.mpr c318
     subst c318
     replace H := ifF H
     by_cases c319 : t688 = 0
     ·rw [if_pos c319] at H
      have c319b0 : (t688 == 0) = true := beq_iff_eq.mpr c319
      have c319b1 : (t688 != 0) = false := bne_eq_false_iff_eq.mpr c319
      clear c319
      by_cases c320 : t687 ≥ 1
      ·rw [if_pos c320] at H
       have c320b0 : decide (1 ≤ t687) = true := decide_eq_true c320
       clear c320
       by_cases c321 : (wrap64 ((wrap64 ((wrap64 (t678 * t685)) + (wrap64 (t679 * t686)))) + (wrap64 (t687 * t682)))) = t685
       ·rw [if_pos c321] at H
        have c321b0 : ((wrap64 ((wrap64 ((wrap64 (t678 * t685)) + (wrap64 (t679 * t686)))) + (wrap64 (t687 * t682)))) == t685) = true := beq_iff_eq.mpr c321
        have c321b1 : ((wrap64 ((wrap64 ((wrap64 (t678 * t685)) + (wrap64 (t679 * t686)))) + (wrap64 (t687 * t682)))) != t685) = false := bne_eq_false_iff_eq.mpr c321
        clear c321
        replace H := Option.some.inj H
        have hnb322 := NB684_689.out
        have hnc322 := NB689_684.out
        have hnb323 := NB684_694.out
        have hnc323 := NB694_684.out
        have hnb324 := NB684_703.out
        have hnc324 := NB703_684.out
        have hnb325 := NB684_712.out
        have hnc325 := NB712_684.out
        have hnb326 := NB684_720.out
        have hnc326 := NB720_684.out
        obtain ⟨hcz327_0, hcz327_1, hcz327_2, hcz327_3, hcz327_4, hcz327_5, hfz327_0, hfz327_1, hfz327_2, hfz327_3, hfz327_4, hfz327_5⟩ := bz6 BK684
        have hnb328 := NB689_694.out
        have hnc328 := NB694_689.out
        have hnb329 := NB689_703.out
        have hnc329 := NB703_689.out
        have hnb330 := NB689_712.out
        have hnc330 := NB712_689.out
        have hnb331 := NB689_720.out
        have hnc331 := NB720_689.out
        obtain ⟨hcz332_0, hcz332_1, hfz332_0, hfz332_1⟩ := bz2 BK689
        go_wp2
        go_ret
        exact ⟨by first | rfl | (simp [errW_none, errW_some] <;> rfl) | (simp [*, errW_none, errW_some] <;> rfl), by repeat (first | (with_reducible first | exact HB.out | apply below_alloc | apply pw_below_drewN | apply below_drew1 | refine below_set ?_ GE684.out | refine below_set ?_ GE689.out | refine below_set ?_ GE694.out | refine below_set ?_ GE703.out | refine below_set ?_ GE712.out | refine below_set ?_ GE720.out) | exact HB.out)⟩
       ·rw [if_neg c321] at H
        have c321b0 : ((wrap64 ((wrap64 ((wrap64 (t678 * t685)) + (wrap64 (t679 * t686)))) + (wrap64 (t687 * t682)))) == t685) = false := beq_eq_false_iff_ne.mpr c321
        have c321b1 : ((wrap64 ((wrap64 ((wrap64 (t678 * t685)) + (wrap64 (t679 * t686)))) + (wrap64 (t687 * t682)))) != t685) = true := bne_iff_ne.mpr c321
        exact absurd H (by simp)
      ·rw [if_neg c320] at H
       have c320b0 : decide (1 ≤ t687) = false := decide_eq_false c320
       clear c320
       exact absurd H (by simp)
     ·rw [if_neg c319] at H
      have c319b0 : (t688 == 0) = false := beq_eq_false_iff_ne.mpr c319
      have c319b1 : (t688 != 0) = true := bne_iff_ne.mpr c319
      clear H
      go_wp2
      go_ret
      exact ⟨by first | rfl | (simp [errW_none, errW_some] <;> rfl) | (simp [*, errW_none, errW_some] <;> rfl), by repeat (first | (with_reducible first | exact HB.out | apply below_alloc | apply pw_below_drewN | apply below_drew1 | refine below_set ?_ GE684.out | refine below_set ?_ GE689.out | refine below_set ?_ GE694.out | refine below_set ?_ GE703.out | refine below_set ?_ GE712.out | refine below_set ?_ GE720.out) | exact HB.out)⟩

/-- The one plain statement of laws_FnCentres. -/
def laws_FnCentres.Pure : Prop := ∀ (l0 : List Int), l0.length ≤ maxLen → (∀ x ∈ l0, (Lit.int .u8 x).wf = true) → ∃ k, laws_FnCentres.f k l0 = some true
end Go.Proofs.YtnblfcibgokccaaGreatDoor.PC
