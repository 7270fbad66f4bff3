/- Walks written by program: each Go function that the law reaches comes to the plain function beside it. -/
import Derived.Test.YteeclbncpdafcaaPAx0
import Derived.Test.YteeclbncpdafcaaPAx2
import Derived.Test.YteeclbncpdafcaaPAx4
import Derived.Test.YteeclbncpdafcaaPAx5
import Derived.Test.YteeclbncpdafcaaPAx8
import Derived.Test.YteeclbncpdafcaaPAx20
import Derived.Test.YteeclbncpdafcaaPAx21
import Derived.Test.YteeclbncpdafcaaPAx22
namespace Go.Proofs.Yteeclbncpdafcaa.PA
open Go.RowKit Go.Proofs.YteeclbncpdafcaaW.PrintWords Go.Proofs.YteeclbncpdafcaaW.PrintLast Go.Proofs.YteeclbncpdafcaaW.PrintMore
attribute [local go_sem] max2_int min2_int max_two min_two max_three min_three max_four min_four   -- for this text's walks alone
set_option linter.unusedVariables false
set_option linter.unusedSimpArgs false

/-! ### laws_FnExactRecolour: function 7 -/
mutual
def laws_FnExactRecolour.j0 : Nat → List Int → Int → List Int → Int → Bool → Int → Int → Int → Int → List Int → Int → Int → Int → Int → List Int → Int → Int → Int → Int → List Int → Int → Int → Int → Int → List Int → Option (Bool)
  | 0, _, _, _, _, _, _, _, _, _, _, _, _, _, _, _, _, _, _, _, _, _, _, _, _, _ => none
  | k + 1, x1, x7, x9, x11, x51, x490000, x490001, x490002, x490003, x490004, x510000, x510001, x510002, x510003, x510004, x518000, x518001, x518002, x518003, x518004, x530000, x530001, x530002, x530003, x530004 => if x51 = true then (some false) else ((laws_toPattern.f k x490000 x490001 x490002 x490003 x490004).bind fun bt531 => ((laws_eqPattern.f k x518000 x518001 x518002 x518003 x518004 bt531.1 bt531.2.1 bt531.2.2.1 bt531.2.2.2.1 bt531.2.2.2.2).bind fun t538 => (if t538 = true then ((laws_toInt64S.f k x1).bind fun t539 => ((laws_eqInt64S.f k x9 t539).bind fun t542 => (if t542 = true then ((laws_markPattern.f k x518000 x518001 x518002 x518003 x518004 1).bind fun bt543 => ((laws_markInt64S.f k x9 bt543.1).bind fun bt545 => (if bt545.1 < 0 then (laws_FnExactRecolour.j1 k x1 x7 true x490000 x490001 x490002 x490003 x490004 x510000 x510001 x510002 x510003 x510004 x530000 x530001 x530002 x530003 x530004) else ((laws_eqPattern.f k x530000 x530001 x530002 x530003 x530004 x510000 x510001 x510002 x510003 x510004).bind fun t547 => (if t547 = true then (laws_FnExactRecolour.j1 k x1 x7 (x11 != x7) x490000 x490001 x490002 x490003 x490004 x510000 x510001 x510002 x510003 x510004 x530000 x530001 x530002 x530003 x530004) else (laws_FnExactRecolour.j1 k x1 x7 true x490000 x490001 x490002 x490003 x490004 x510000 x510001 x510002 x510003 x510004 x530000 x530001 x530002 x530003 x530004)))))) else (some false)))) else (some false))))
def laws_FnExactRecolour.j1 : Nat → List Int → Int → Bool → Int → Int → Int → Int → List Int → Int → Int → Int → Int → List Int → Int → Int → Int → Int → List Int → Option (Bool)
  | 0, _, _, _, _, _, _, _, _, _, _, _, _, _, _, _, _, _, _ => none
  | k + 1, x1, x7, x80, x490000, x490001, x490002, x490003, x490004, x510000, x510001, x510002, x510003, x510004, x530000, x530001, x530002, x530003, x530004 => if x80 = true then (some false) else ((laws_markPattern.f k x530000 x530001 x530002 x530003 x530004 1).bind fun bt548 => ((laws_heldPattern.f k x530000 x530001 x530002 x530003 bt548.2 1).bind fun t550 => (if t550 < 0 then (some false) else (if t550 = bt548.1 then ((laws_toPattern.f k x490000 x490001 x490002 x490003 x490004).bind fun bt551 => ((laws_toInt64S.f k x1).bind fun t558 => ((impl_Recolour.f k bt551.1 bt551.2.1 bt551.2.2.1 bt551.2.2.2.1 bt551.2.2.2.2 t558).bind fun bt561 => ((laws_eqPattern.f k bt561.1 bt561.2.1 bt561.2.2.1 bt561.2.2.2.1 bt561.2.2.2.2.1 x510000 x510001 x510002 x510003 x510004).bind fun t570 => (if t570 = true then (laws_FnExactRecolour.j2 k bt548.1 (bt561.2.2.2.2.2 != x7) x530000 x530001 x530002 x530003 bt548.2) else (laws_FnExactRecolour.j2 k bt548.1 true x530000 x530001 x530002 x530003 bt548.2)))))) else (some false)))))
def laws_FnExactRecolour.j2 : Nat → Int → Bool → Int → Int → Int → Int → List Int → Option (Bool)
  | 0, _, _, _, _, _, _, _ => none
  | k + 1, x13, x108, x530000, x530001, x530002, x530003, x530004 => if x108 = true then (some false) else ((laws_heldPattern.f k x530000 x530001 x530002 x530003 x530004 1).bind fun t571 => (if t571 < 0 then (some false) else (if t571 = x13 then (some true) else (some false))))
end
def laws_FnExactRecolour.f (k : Nat) (a0_0 : Int) (a0_1 : Int) (a0_2 : Int) (a0_3 : Int) (l0_4 : List Int) (l1 : List Int) : Option (Bool) := if (l1.length : Int) > 1048576 then (some true) else ((laws_szPattern.f a0_0 a0_1 a0_2 a0_3 l0_4 1048576).bind fun t490 => (if t490 < 0 then (some true) else ((laws_toPattern.f k a0_0 a0_1 a0_2 a0_3 l0_4).bind fun bt491 => ((laws_toInt64S.f k l1).bind fun t498 => ((spec_Recolour.f k bt491.1 bt491.2.1 bt491.2.2.1 bt491.2.2.2.1 bt491.2.2.2.2 t498).bind fun bt501 => ((laws_toPattern.f k a0_0 a0_1 a0_2 a0_3 l0_4).bind fun bt510 => ((laws_toInt64S.f k l1).bind fun t518 => ((impl_Recolour.f k bt510.1 bt510.2.1 bt510.2.2.1 bt510.2.2.2.1 bt510.2.2.2.2 t518).bind fun bt521 => ((laws_eqPattern.f k bt521.1 bt521.2.1 bt521.2.2.1 bt521.2.2.2.1 bt521.2.2.2.2.1 bt501.1 bt501.2.1 bt501.2.2.1 bt501.2.2.2.1 bt501.2.2.2.2.1).bind fun t530 => (if t530 = true then (laws_FnExactRecolour.j0 k l1 bt501.2.2.2.2.2 t518 bt521.2.2.2.2.2 (bt521.2.2.2.2.2 != bt501.2.2.2.2.2) a0_0 a0_1 a0_2 a0_3 l0_4 bt501.1 bt501.2.1 bt501.2.2.1 bt501.2.2.2.1 bt501.2.2.2.2.1 bt510.1 bt510.2.1 bt510.2.2.1 bt510.2.2.2.1 bt510.2.2.2.2 bt521.1 bt521.2.1 bt521.2.2.1 bt521.2.2.2.1 bt521.2.2.2.2.1) else (laws_FnExactRecolour.j0 k l1 bt501.2.2.2.2.2 t518 bt521.2.2.2.2.2 true a0_0 a0_1 a0_2 a0_3 l0_4 bt501.1 bt501.2.1 bt501.2.2.1 bt501.2.2.2.1 bt501.2.2.2.2.1 bt510.1 bt510.2.1 bt510.2.2.1 bt510.2.2.2.1 bt510.2.2.2.2 bt521.1 bt521.2.1 bt521.2.2.1 bt521.2.2.2.1 bt521.2.2.2.2.1)))))))))))
theorem laws_FnExactRecolour.mono_l : ∀ k, (∀ y0 y1 y2 y3 y4 y5 y6 y7 y8 y9 y10 y11 y12 y13 y14 y15 y16 y17 y18 y19 y20 y21 y22 y23 y24, LeO (laws_FnExactRecolour.j0 k y0 y1 y2 y3 y4 y5 y6 y7 y8 y9 y10 y11 y12 y13 y14 y15 y16 y17 y18 y19 y20 y21 y22 y23 y24) (laws_FnExactRecolour.j0 (k + 1) y0 y1 y2 y3 y4 y5 y6 y7 y8 y9 y10 y11 y12 y13 y14 y15 y16 y17 y18 y19 y20 y21 y22 y23 y24)) ∧ (∀ y0 y1 y2 y3 y4 y5 y6 y7 y8 y9 y10 y11 y12 y13 y14 y15 y16 y17, LeO (laws_FnExactRecolour.j1 k y0 y1 y2 y3 y4 y5 y6 y7 y8 y9 y10 y11 y12 y13 y14 y15 y16 y17) (laws_FnExactRecolour.j1 (k + 1) y0 y1 y2 y3 y4 y5 y6 y7 y8 y9 y10 y11 y12 y13 y14 y15 y16 y17)) ∧ (∀ y0 y1 y2 y3 y4 y5 y6, LeO (laws_FnExactRecolour.j2 k y0 y1 y2 y3 y4 y5 y6) (laws_FnExactRecolour.j2 (k + 1) y0 y1 y2 y3 y4 y5 y6))
  | 0 => ⟨fun _ _ _ _ _ _ _ _ _ _ _ _ _ _ _ _ _ _ _ _ _ _ _ _ _ r h => by simp [laws_FnExactRecolour.j0] at h, fun _ _ _ _ _ _ _ _ _ _ _ _ _ _ _ _ _ _ r h => by simp [laws_FnExactRecolour.j1] at h, fun _ _ _ _ _ _ _ r h => by simp [laws_FnExactRecolour.j2] at h⟩
  | k + 1 => by
    obtain ⟨ih0, ih1, ih2⟩ := laws_FnExactRecolour.mono_l k
    refine ⟨?_, ?_, ?_⟩
    · intro y0 y1 y2 y3 y4 y5 y6 y7 y8 y9 y10 y11 y12 y13 y14 y15 y16 y17 y18 y19 y20 y21 y22 y23 y24
      unfold laws_FnExactRecolour.j0
      repeat' first
      | (with_reducible exact ih0 _ _ _ _ _ _ _ _ _ _ _ _ _ _ _ _ _ _ _ _ _ _ _ _ _)
      | (with_reducible exact ih1 _ _ _ _ _ _ _ _ _ _ _ _ _ _ _ _ _ _)
      | (with_reducible exact ih2 _ _ _ _ _ _ _)
      | (with_reducible exact impl_Recolour.mono _ _ _ _ _ _ _)
      | (with_reducible exact laws_eqInt64S.mono _ _ _)
      | (with_reducible exact laws_eqPattern.mono _ _ _ _ _ _ _ _ _ _ _)
      | (with_reducible exact laws_heldPattern.mono _ _ _ _ _ _ _)
      | (with_reducible exact laws_markInt64S.mono _ _ _)
      | (with_reducible exact laws_markPattern.mono _ _ _ _ _ _ _)
      | (with_reducible exact laws_toInt64S.mono _ _)
      | (with_reducible exact laws_toPattern.mono _ _ _ _ _ _)
      | (with_reducible exact spec_Recolour.mono _ _ _ _ _ _ _)
      | (with_reducible exact LeO.refl _)
      | (with_reducible exact LeO.none _)
      | (with_reducible refine LeO.ite ?_ ?_)
      | (with_reducible refine LeO.bind ?_ (fun _ => ?_))
      | exact ih0 _ _ _ _ _ _ _ _ _ _ _ _ _ _ _ _ _ _ _ _ _ _ _ _ _
      | exact ih1 _ _ _ _ _ _ _ _ _ _ _ _ _ _ _ _ _ _
      | exact ih2 _ _ _ _ _ _ _
      | exact impl_Recolour.mono _ _ _ _ _ _ _
      | exact laws_eqInt64S.mono _ _ _
      | exact laws_eqPattern.mono _ _ _ _ _ _ _ _ _ _ _
      | exact laws_heldPattern.mono _ _ _ _ _ _ _
      | exact laws_markInt64S.mono _ _ _
      | exact laws_markPattern.mono _ _ _ _ _ _ _
      | exact laws_toInt64S.mono _ _
      | exact laws_toPattern.mono _ _ _ _ _ _
      | exact spec_Recolour.mono _ _ _ _ _ _ _
      | exact LeO.none _
      | refine LeO.ite ?_ ?_
      | refine LeO.bind ?_ (fun _ => ?_)
    · intro y0 y1 y2 y3 y4 y5 y6 y7 y8 y9 y10 y11 y12 y13 y14 y15 y16 y17
      unfold laws_FnExactRecolour.j1
      repeat' first
      | (with_reducible exact ih0 _ _ _ _ _ _ _ _ _ _ _ _ _ _ _ _ _ _ _ _ _ _ _ _ _)
      | (with_reducible exact ih1 _ _ _ _ _ _ _ _ _ _ _ _ _ _ _ _ _ _)
      | (with_reducible exact ih2 _ _ _ _ _ _ _)
      | (with_reducible exact impl_Recolour.mono _ _ _ _ _ _ _)
      | (with_reducible exact laws_eqInt64S.mono _ _ _)
      | (with_reducible exact laws_eqPattern.mono _ _ _ _ _ _ _ _ _ _ _)
      | (with_reducible exact laws_heldPattern.mono _ _ _ _ _ _ _)
      | (with_reducible exact laws_markInt64S.mono _ _ _)
      | (with_reducible exact laws_markPattern.mono _ _ _ _ _ _ _)
      | (with_reducible exact laws_toInt64S.mono _ _)
      | (with_reducible exact laws_toPattern.mono _ _ _ _ _ _)
      | (with_reducible exact spec_Recolour.mono _ _ _ _ _ _ _)
      | (with_reducible exact LeO.refl _)
      | (with_reducible exact LeO.none _)
      | (with_reducible refine LeO.ite ?_ ?_)
      | (with_reducible refine LeO.bind ?_ (fun _ => ?_))
      | exact ih0 _ _ _ _ _ _ _ _ _ _ _ _ _ _ _ _ _ _ _ _ _ _ _ _ _
      | exact ih1 _ _ _ _ _ _ _ _ _ _ _ _ _ _ _ _ _ _
      | exact ih2 _ _ _ _ _ _ _
      | exact impl_Recolour.mono _ _ _ _ _ _ _
      | exact laws_eqInt64S.mono _ _ _
      | exact laws_eqPattern.mono _ _ _ _ _ _ _ _ _ _ _
      | exact laws_heldPattern.mono _ _ _ _ _ _ _
      | exact laws_markInt64S.mono _ _ _
      | exact laws_markPattern.mono _ _ _ _ _ _ _
      | exact laws_toInt64S.mono _ _
      | exact laws_toPattern.mono _ _ _ _ _ _
      | exact spec_Recolour.mono _ _ _ _ _ _ _
      | exact LeO.none _
      | refine LeO.ite ?_ ?_
      | refine LeO.bind ?_ (fun _ => ?_)
    · intro y0 y1 y2 y3 y4 y5 y6
      unfold laws_FnExactRecolour.j2
      repeat' first
      | (with_reducible exact ih0 _ _ _ _ _ _ _ _ _ _ _ _ _ _ _ _ _ _ _ _ _ _ _ _ _)
      | (with_reducible exact ih1 _ _ _ _ _ _ _ _ _ _ _ _ _ _ _ _ _ _)
      | (with_reducible exact ih2 _ _ _ _ _ _ _)
      | (with_reducible exact impl_Recolour.mono _ _ _ _ _ _ _)
      | (with_reducible exact laws_eqInt64S.mono _ _ _)
      | (with_reducible exact laws_eqPattern.mono _ _ _ _ _ _ _ _ _ _ _)
      | (with_reducible exact laws_heldPattern.mono _ _ _ _ _ _ _)
      | (with_reducible exact laws_markInt64S.mono _ _ _)
      | (with_reducible exact laws_markPattern.mono _ _ _ _ _ _ _)
      | (with_reducible exact laws_toInt64S.mono _ _)
      | (with_reducible exact laws_toPattern.mono _ _ _ _ _ _)
      | (with_reducible exact spec_Recolour.mono _ _ _ _ _ _ _)
      | (with_reducible exact LeO.refl _)
      | (with_reducible exact LeO.none _)
      | (with_reducible refine LeO.ite ?_ ?_)
      | (with_reducible refine LeO.bind ?_ (fun _ => ?_))
      | exact ih0 _ _ _ _ _ _ _ _ _ _ _ _ _ _ _ _ _ _ _ _ _ _ _ _ _
      | exact ih1 _ _ _ _ _ _ _ _ _ _ _ _ _ _ _ _ _ _
      | exact ih2 _ _ _ _ _ _ _
      | exact impl_Recolour.mono _ _ _ _ _ _ _
      | exact laws_eqInt64S.mono _ _ _
      | exact laws_eqPattern.mono _ _ _ _ _ _ _ _ _ _ _
      | exact laws_heldPattern.mono _ _ _ _ _ _ _
      | exact laws_markInt64S.mono _ _ _
      | exact laws_markPattern.mono _ _ _ _ _ _ _
      | exact laws_toInt64S.mono _ _
      | exact laws_toPattern.mono _ _ _ _ _ _
      | exact spec_Recolour.mono _ _ _ _ _ _ _
      | exact LeO.none _
      | refine LeO.ite ?_ ?_
      | refine LeO.bind ?_ (fun _ => ?_)
theorem laws_FnExactRecolour.mono : ∀ a0 a1 a2 a3 a4 a5 k, LeO (laws_FnExactRecolour.f k a0 a1 a2 a3 a4 a5) (laws_FnExactRecolour.f (k + 1) a0 a1 a2 a3 a4 a5) := by
  intro a0 a1 a2 a3 a4 a5 k
  obtain ⟨ih0, ih1, ih2⟩ := laws_FnExactRecolour.mono_l k
  unfold laws_FnExactRecolour.f
  repeat' first
      | (with_reducible exact ih0 _ _ _ _ _ _ _ _ _ _ _ _ _ _ _ _ _ _ _ _ _ _ _ _ _)
      | (with_reducible exact ih1 _ _ _ _ _ _ _ _ _ _ _ _ _ _ _ _ _ _)
      | (with_reducible exact ih2 _ _ _ _ _ _ _)
      | (with_reducible exact impl_Recolour.mono _ _ _ _ _ _ _)
      | (with_reducible exact laws_eqInt64S.mono _ _ _)
      | (with_reducible exact laws_eqPattern.mono _ _ _ _ _ _ _ _ _ _ _)
      | (with_reducible exact laws_heldPattern.mono _ _ _ _ _ _ _)
      | (with_reducible exact laws_markInt64S.mono _ _ _)
      | (with_reducible exact laws_markPattern.mono _ _ _ _ _ _ _)
      | (with_reducible exact laws_toInt64S.mono _ _)
      | (with_reducible exact laws_toPattern.mono _ _ _ _ _ _)
      | (with_reducible exact spec_Recolour.mono _ _ _ _ _ _ _)
      | (with_reducible exact LeO.refl _)
      | (with_reducible exact LeO.none _)
      | (with_reducible refine LeO.ite ?_ ?_)
      | (with_reducible refine LeO.bind ?_ (fun _ => ?_))
      | exact ih0 _ _ _ _ _ _ _ _ _ _ _ _ _ _ _ _ _ _ _ _ _ _ _ _ _
      | exact ih1 _ _ _ _ _ _ _ _ _ _ _ _ _ _ _ _ _ _
      | exact ih2 _ _ _ _ _ _ _
      | exact impl_Recolour.mono _ _ _ _ _ _ _
      | exact laws_eqInt64S.mono _ _ _
      | exact laws_eqPattern.mono _ _ _ _ _ _ _ _ _ _ _
      | exact laws_heldPattern.mono _ _ _ _ _ _ _
      | exact laws_markInt64S.mono _ _ _
      | exact laws_markPattern.mono _ _ _ _ _ _ _
      | exact laws_toInt64S.mono _ _
      | exact laws_toPattern.mono _ _ _ _ _ _
      | exact spec_Recolour.mono _ _ _ _ _ _ _
      | exact LeO.none _
      | refine LeO.ite ?_ ?_
      | refine LeO.bind ?_ (fun _ => ?_)
set_option maxHeartbeats 8000000 in
set_option maxRecDepth 100000 in
theorem laws_FnExactRecolour.calls (k : Nat) (a0_0 : Int) (a0_1 : Int) (a0_2 : Int) (a0_3 : Int) (A0_4 : Option Addr) (c0_4 : Nat) (l0_4 : List Int) (A1 : Option Addr) (c1 : Nat) (l1 : List Int) (w : World) (hr0_4 : Kd.C (Kd.int .i64) w A0_4 l0_4.length l0_4) (hc0_4 : l0_4.length ≤ c0_4) (hr1 : Kd.C (Kd.int .i64) w A1 l1.length l1) (hc1 : l1.length ≤ c1) (h : laws_FnExactRecolour.f k a0_0 a0_1 a0_2 a0_3 l0_4 l1 = some true) :
    Calls Try.prog 7 #[.agg #[.int .i64 a0_0, .int .i64 a0_1, .int .i64 a0_2, .int .i64 a0_3, .slice A0_4 l0_4.length c0_4], .slice A1 l1.length c1] w fun e w' => e = .returned (.bool true) ∧ Below w.heap.size w w' := by
  have hu26 := Try.underlying26
  have hu31 := Try.underlying31
  have HR0_4 := Aside0.mk hr0_4
  have HC0_4 := Aside0.mk hc0_4
  clear hr0_4 hc0_4
  have HR1 := Aside0.mk hr1
  have HC1 := Aside0.mk hc1
  clear hr1 hc1
  have HB := Aside0.mk (Below.refl w.heap.size w)
  have H : (if (l1.length : Int) > 1048576 then (some true) else ((laws_szPattern.f a0_0 a0_1 a0_2 a0_3 l0_4 1048576).bind fun t490 => (if t490 < 0 then (some true) else ((laws_toPattern.f k a0_0 a0_1 a0_2 a0_3 l0_4).bind fun bt491 => ((laws_toInt64S.f k l1).bind fun t498 => ((spec_Recolour.f k bt491.1 bt491.2.1 bt491.2.2.1 bt491.2.2.2.1 bt491.2.2.2.2 t498).bind fun bt501 => ((laws_toPattern.f k a0_0 a0_1 a0_2 a0_3 l0_4).bind fun bt510 => ((laws_toInt64S.f k l1).bind fun t518 => ((impl_Recolour.f k bt510.1 bt510.2.1 bt510.2.2.1 bt510.2.2.2.1 bt510.2.2.2.2 t518).bind fun bt521 => ((laws_eqPattern.f k bt521.1 bt521.2.1 bt521.2.2.1 bt521.2.2.2.1 bt521.2.2.2.2.1 bt501.1 bt501.2.1 bt501.2.2.1 bt501.2.2.2.1 bt501.2.2.2.2.1).bind fun t530 => (if t530 = true then (laws_FnExactRecolour.j0 k l1 bt501.2.2.2.2.2 t518 bt521.2.2.2.2.2 (bt521.2.2.2.2.2 != bt501.2.2.2.2.2) a0_0 a0_1 a0_2 a0_3 l0_4 bt501.1 bt501.2.1 bt501.2.2.1 bt501.2.2.2.1 bt501.2.2.2.2.1 bt510.1 bt510.2.1 bt510.2.2.1 bt510.2.2.2.1 bt510.2.2.2.2 bt521.1 bt521.2.1 bt521.2.2.1 bt521.2.2.2.1 bt521.2.2.2.2.1) else (laws_FnExactRecolour.j0 k l1 bt501.2.2.2.2.2 t518 bt521.2.2.2.2.2 true a0_0 a0_1 a0_2 a0_3 l0_4 bt501.1 bt501.2.1 bt501.2.2.1 bt501.2.2.2.1 bt501.2.2.2.2.1 bt510.1 bt510.2.1 bt510.2.2.1 bt510.2.2.2.1 bt510.2.2.2.2 bt521.1 bt521.2.1 bt521.2.2.1 bt521.2.2.2.1 bt521.2.2.2.2.1)))))))))))) = some true := h
  clear h
  by_cases c3 : (l1.length : Int) > 1048576
  · rw [if_pos c3] at H
    have c3b0 : decide (1048576 < (l1.length : Int)) = true := decide_eq_true c3
    have c3b1 : decide (1048576 < l1.length) = true := decide_eq_true (by omega)
    clear c3
    clear H
    go_enter Try.func7, Try.ntmps7
    go_wp2_with (first | ((with_reducible refine gate_dst (N := 2) rfl ?_); refine box_event ?hg (N := 2) ?hd (cs := #[.int .i64 a0_0, .int .i64 a0_1, .int .i64 a0_2, .int .i64 a0_3, .slice A0_4 l0_4.length c0_4]) (t := 26) ?hr ?_; (case hd => rfl); (case hg => rfl); (case hr => first | (go_simp; done) | (go_simp; rfl)); intro gb489 hg w4 hbox hb; have n0_ := Aside0.mk (below_step (by repeat (first | (with_reducible first | exact HB.out | apply below_alloc | apply pw_below_drewN | apply below_drew1) | exact HB.out)) hb); have n1_ := Aside0.mk (hbox); have n2_ := Aside0.mk ((by rw [hg]; exact (below_size (by repeat (first | (with_reducible first | exact HB.out | apply below_alloc | apply pw_below_drewN | apply below_drew1) | exact HB.out))) : w.heap.size ≤ gb489)); have n3_ := Aside0.mk ((by rw [hg]; exact (below_size (by repeat (first | (with_reducible first | exact HB.out | apply below_alloc | apply pw_below_drewN | apply below_drew1) | exact HB.out))) : w.heap.size ≤ gb489)); clear HB; have HB := n0_; have BK489 := n1_; have GW489 := n2_; have GE489 := n3_; clear n0_ n1_ n2_ n3_; clear hb hbox hg))
    go_ret
    exact ⟨by first | rfl | (simp [errW_none, errW_some] <;> rfl) | (simp [*, errW_none, errW_some] <;> rfl), by repeat (first | (with_reducible first | exact HB.out | apply below_alloc | apply pw_below_drewN | apply below_drew1 | refine below_set ?_ GE489.out) | exact HB.out)⟩
  · rw [if_neg c3] at H
    have c3b0 : decide (1048576 < (l1.length : Int)) = false := decide_eq_false c3
    have c3b1 : decide (1048576 < l1.length) = false := decide_eq_false (by omega)
    clear c3
    replace H := Option.bind_eq_some_iff.mp H
    obtain ⟨t490, A50, H⟩ := H
    replace H : (if t490 < 0 then (some true) else ((laws_toPattern.f k a0_0 a0_1 a0_2 a0_3 l0_4).bind fun bt491 => ((laws_toInt64S.f k l1).bind fun t498 => ((spec_Recolour.f k bt491.1 bt491.2.1 bt491.2.2.1 bt491.2.2.2.1 bt491.2.2.2.2 t498).bind fun bt501 => ((laws_toPattern.f k a0_0 a0_1 a0_2 a0_3 l0_4).bind fun bt510 => ((laws_toInt64S.f k l1).bind fun t518 => ((impl_Recolour.f k bt510.1 bt510.2.1 bt510.2.2.1 bt510.2.2.2.1 bt510.2.2.2.2 t518).bind fun bt521 => ((laws_eqPattern.f k bt521.1 bt521.2.1 bt521.2.2.1 bt521.2.2.2.1 bt521.2.2.2.2.1 bt501.1 bt501.2.1 bt501.2.2.1 bt501.2.2.2.1 bt501.2.2.2.2.1).bind fun t530 => (if t530 = true then (laws_FnExactRecolour.j0 k l1 bt501.2.2.2.2.2 t518 bt521.2.2.2.2.2 (bt521.2.2.2.2.2 != bt501.2.2.2.2.2) a0_0 a0_1 a0_2 a0_3 l0_4 bt501.1 bt501.2.1 bt501.2.2.1 bt501.2.2.2.1 bt501.2.2.2.2.1 bt510.1 bt510.2.1 bt510.2.2.1 bt510.2.2.2.1 bt510.2.2.2.2 bt521.1 bt521.2.1 bt521.2.2.1 bt521.2.2.2.1 bt521.2.2.2.2.1) else (laws_FnExactRecolour.j0 k l1 bt501.2.2.2.2.2 t518 bt521.2.2.2.2.2 true a0_0 a0_1 a0_2 a0_3 l0_4 bt501.1 bt501.2.1 bt501.2.2.1 bt501.2.2.2.1 bt501.2.2.2.2.1 bt510.1 bt510.2.1 bt510.2.2.1 bt510.2.2.2.1 bt510.2.2.2.2 bt521.1 bt521.2.1 bt521.2.2.1 bt521.2.2.2.1 bt521.2.2.2.2.1)))))))))) = some true := H
    have A5 := Aside0.mk A50
    clear A50
    by_cases c6 : t490 < 0
    · rw [if_pos c6] at H
      have c6b0 : decide (t490 < 0) = true := decide_eq_true c6
      clear c6
      clear H
      go_enter Try.func7, Try.ntmps7
      go_wp2_with (first | ((with_reducible refine gate_dst (N := 2) rfl ?_); refine box_event ?hg (N := 2) ?hd (cs := #[.int .i64 a0_0, .int .i64 a0_1, .int .i64 a0_2, .int .i64 a0_3, .slice A0_4 l0_4.length c0_4]) (t := 26) ?hr ?_; (case hd => rfl); (case hg => rfl); (case hr => first | (go_simp; done) | (go_simp; rfl)); intro gb489 hg w7 hbox hb; have n0_ := Aside0.mk (below_step (by repeat (first | (with_reducible first | exact HB.out | apply below_alloc | apply pw_below_drewN | apply below_drew1) | exact HB.out)) hb); have n1_ := Aside0.mk (hbox); have n2_ := Aside0.mk ((by rw [hg]; exact (below_size (by repeat (first | (with_reducible first | exact HB.out | apply below_alloc | apply pw_below_drewN | apply below_drew1) | exact HB.out))) : w.heap.size ≤ gb489)); have n3_ := Aside0.mk ((by rw [hg]; exact (below_size (by repeat (first | (with_reducible first | exact HB.out | apply below_alloc | apply pw_below_drewN | apply below_drew1) | exact HB.out))) : w.heap.size ≤ gb489)); clear HB; have HB := n0_; have BK489 := n1_; have GW489 := n2_; have GE489 := n3_; clear n0_ n1_ n2_ n3_; clear hb hbox hg; have hcz8_0 : w7.cell? ⟨gb489, 0, none⟩ = some (.int .i64 a0_0) := (blk_cell BK489.out 0).trans rfl; have hcz8_1 : w7.cell? ⟨gb489, 1, none⟩ = some (.int .i64 a0_1) := (blk_cell BK489.out 1).trans rfl; have hcz8_2 : w7.cell? ⟨gb489, 2, none⟩ = some (.int .i64 a0_2) := (blk_cell BK489.out 2).trans rfl; have hcz8_3 : w7.cell? ⟨gb489, 3, none⟩ = some (.int .i64 a0_3) := (blk_cell BK489.out 3).trans rfl; have hcz8_4 : w7.cell? ⟨gb489, 4, none⟩ = some (.slice A0_4 l0_4.length c0_4) := (blk_cell BK489.out 4).trans rfl; have hfz8_0 := blk_frozen BK489.out 0; have hfz8_1 := blk_frozen BK489.out 1; have hfz8_2 := blk_frozen BK489.out 2; have hfz8_3 := blk_frozen BK489.out 3; have hfz8_4 := blk_frozen BK489.out 4) | ((with_reducible refine gate_callee (f := 10) rfl ?_); refine goesL_ (some 22) rfl rfl Try.func10 (by kernel_rfl) rfl #[.agg #[.int .i64 a0_0, .int .i64 a0_1, .int .i64 a0_2, .int .i64 a0_3, .slice A0_4 l0_4.length c0_4], .int .i64 1048576] rfl (by (try simp only [List.map_toArray, List.map_cons, List.map_nil]); first | done | rfl | (simp only [List.length_drop, List.length_take]; rfl)) ?_; (with_reducible refine (laws_szPattern.calls a0_0 a0_1 a0_2 a0_3 _ _ l0_4 1048576 t490 _ ?side1 ?side2 A5.out).mono ?_); (case side1 => repeat (first | exact (Kd.C_below HR0_4.out HB.out) | (with_reducible refine Kd.C_alloc ?_ _) | (with_reducible refine Kd.C_drewN ?_ _) | (with_reducible refine Kd.C_drew ?_))); (case side2 => exact HC0_4.out); rintro e w9 ⟨rfl, hb⟩; refine ⟨_, rfl, ?_⟩; have n0_ := Aside0.mk (blk_below (g := gb489) (o := .cells #[.int .i64 a0_0, .int .i64 a0_1, .int .i64 a0_2, .int .i64 a0_3, .slice A0_4 l0_4.length c0_4] 26 (0, 0)) (by (with_reducible repeat (first | refine blk_drewN ?_ _ | refine blk_drew ?_ | refine blk_alloc ?_ _)); exact BK489.out) hb); have n1_ := Aside0.mk (below_step (by repeat (first | (with_reducible first | exact HB.out | apply below_alloc | apply pw_below_drewN | apply below_drew1 | refine below_set ?_ GE489.out) | exact HB.out)) hb); clear BK489; clear HB; have BK489 := n0_; have HB := n1_; clear n0_ n1_; (try clear hb); (try clear hb2); (try clear hk); (try clear hi)))
      go_ret
      exact ⟨by first | rfl | (simp [errW_none, errW_some] <;> rfl) | (simp [*, errW_none, errW_some] <;> rfl), by repeat (first | (with_reducible first | exact HB.out | apply below_alloc | apply pw_below_drewN | apply below_drew1 | refine below_set ?_ GE489.out) | exact HB.out)⟩
    · rw [if_neg c6] at H
      have c6b0 : decide (t490 < 0) = false := decide_eq_false c6
      clear c6
      replace H := Option.bind_eq_some_iff.mp H
      obtain ⟨⟨t491, t492, t493, t494, t495⟩, A100, H⟩ := H
      replace H : ((laws_toInt64S.f k l1).bind fun t498 => ((spec_Recolour.f k t491 t492 t493 t494 t495 t498).bind fun bt501 => ((laws_toPattern.f k a0_0 a0_1 a0_2 a0_3 l0_4).bind fun bt510 => ((laws_toInt64S.f k l1).bind fun t518 => ((impl_Recolour.f k bt510.1 bt510.2.1 bt510.2.2.1 bt510.2.2.2.1 bt510.2.2.2.2 t518).bind fun bt521 => ((laws_eqPattern.f k bt521.1 bt521.2.1 bt521.2.2.1 bt521.2.2.2.1 bt521.2.2.2.2.1 bt501.1 bt501.2.1 bt501.2.2.1 bt501.2.2.2.1 bt501.2.2.2.2.1).bind fun t530 => (if t530 = true then (laws_FnExactRecolour.j0 k l1 bt501.2.2.2.2.2 t518 bt521.2.2.2.2.2 (bt521.2.2.2.2.2 != bt501.2.2.2.2.2) a0_0 a0_1 a0_2 a0_3 l0_4 bt501.1 bt501.2.1 bt501.2.2.1 bt501.2.2.2.1 bt501.2.2.2.2.1 bt510.1 bt510.2.1 bt510.2.2.1 bt510.2.2.2.1 bt510.2.2.2.2 bt521.1 bt521.2.1 bt521.2.2.1 bt521.2.2.2.1 bt521.2.2.2.2.1) else (laws_FnExactRecolour.j0 k l1 bt501.2.2.2.2.2 t518 bt521.2.2.2.2.2 true a0_0 a0_1 a0_2 a0_3 l0_4 bt501.1 bt501.2.1 bt501.2.2.1 bt501.2.2.2.1 bt501.2.2.2.2.1 bt510.1 bt510.2.1 bt510.2.2.1 bt510.2.2.2.1 bt510.2.2.2.2 bt521.1 bt521.2.1 bt521.2.2.1 bt521.2.2.2.1 bt521.2.2.2.2.1)))))))) = some true := H
      have A10 := Aside0.mk A100
      clear A100
      replace H := Option.bind_eq_some_iff.mp H
      obtain ⟨t498, A110, H⟩ := H
      replace H : ((spec_Recolour.f k t491 t492 t493 t494 t495 t498).bind fun bt501 => ((laws_toPattern.f k a0_0 a0_1 a0_2 a0_3 l0_4).bind fun bt510 => ((laws_toInt64S.f k l1).bind fun t518 => ((impl_Recolour.f k bt510.1 bt510.2.1 bt510.2.2.1 bt510.2.2.2.1 bt510.2.2.2.2 t518).bind fun bt521 => ((laws_eqPattern.f k bt521.1 bt521.2.1 bt521.2.2.1 bt521.2.2.2.1 bt521.2.2.2.2.1 bt501.1 bt501.2.1 bt501.2.2.1 bt501.2.2.2.1 bt501.2.2.2.2.1).bind fun t530 => (if t530 = true then (laws_FnExactRecolour.j0 k l1 bt501.2.2.2.2.2 t518 bt521.2.2.2.2.2 (bt521.2.2.2.2.2 != bt501.2.2.2.2.2) a0_0 a0_1 a0_2 a0_3 l0_4 bt501.1 bt501.2.1 bt501.2.2.1 bt501.2.2.2.1 bt501.2.2.2.2.1 bt510.1 bt510.2.1 bt510.2.2.1 bt510.2.2.2.1 bt510.2.2.2.2 bt521.1 bt521.2.1 bt521.2.2.1 bt521.2.2.2.1 bt521.2.2.2.2.1) else (laws_FnExactRecolour.j0 k l1 bt501.2.2.2.2.2 t518 bt521.2.2.2.2.2 true a0_0 a0_1 a0_2 a0_3 l0_4 bt501.1 bt501.2.1 bt501.2.2.1 bt501.2.2.2.1 bt501.2.2.2.2.1 bt510.1 bt510.2.1 bt510.2.2.1 bt510.2.2.2.1 bt510.2.2.2.2 bt521.1 bt521.2.1 bt521.2.2.1 bt521.2.2.2.1 bt521.2.2.2.2.1))))))) = some true := H
      have A11 := Aside0.mk A110
      clear A110
      replace H := Option.bind_eq_some_iff.mp H
      obtain ⟨⟨t501, t502, t503, t504, t505, t508⟩, A120, H⟩ := H
      replace H : ((laws_toPattern.f k a0_0 a0_1 a0_2 a0_3 l0_4).bind fun bt510 => ((laws_toInt64S.f k l1).bind fun t518 => ((impl_Recolour.f k bt510.1 bt510.2.1 bt510.2.2.1 bt510.2.2.2.1 bt510.2.2.2.2 t518).bind fun bt521 => ((laws_eqPattern.f k bt521.1 bt521.2.1 bt521.2.2.1 bt521.2.2.2.1 bt521.2.2.2.2.1 t501 t502 t503 t504 t505).bind fun t530 => (if t530 = true then (laws_FnExactRecolour.j0 k l1 t508 t518 bt521.2.2.2.2.2 (bt521.2.2.2.2.2 != t508) a0_0 a0_1 a0_2 a0_3 l0_4 t501 t502 t503 t504 t505 bt510.1 bt510.2.1 bt510.2.2.1 bt510.2.2.2.1 bt510.2.2.2.2 bt521.1 bt521.2.1 bt521.2.2.1 bt521.2.2.2.1 bt521.2.2.2.2.1) else (laws_FnExactRecolour.j0 k l1 t508 t518 bt521.2.2.2.2.2 true a0_0 a0_1 a0_2 a0_3 l0_4 t501 t502 t503 t504 t505 bt510.1 bt510.2.1 bt510.2.2.1 bt510.2.2.2.1 bt510.2.2.2.2 bt521.1 bt521.2.1 bt521.2.2.1 bt521.2.2.2.1 bt521.2.2.2.2.1)))))) = some true := H
      have A12 := Aside0.mk A120
      clear A120
      replace H := Option.bind_eq_some_iff.mp H
      obtain ⟨⟨t510, t511, t512, t513, t514⟩, A130, H⟩ := H
      replace H : ((laws_toInt64S.f k l1).bind fun t518 => ((impl_Recolour.f k t510 t511 t512 t513 t514 t518).bind fun bt521 => ((laws_eqPattern.f k bt521.1 bt521.2.1 bt521.2.2.1 bt521.2.2.2.1 bt521.2.2.2.2.1 t501 t502 t503 t504 t505).bind fun t530 => (if t530 = true then (laws_FnExactRecolour.j0 k l1 t508 t518 bt521.2.2.2.2.2 (bt521.2.2.2.2.2 != t508) a0_0 a0_1 a0_2 a0_3 l0_4 t501 t502 t503 t504 t505 t510 t511 t512 t513 t514 bt521.1 bt521.2.1 bt521.2.2.1 bt521.2.2.2.1 bt521.2.2.2.2.1) else (laws_FnExactRecolour.j0 k l1 t508 t518 bt521.2.2.2.2.2 true a0_0 a0_1 a0_2 a0_3 l0_4 t501 t502 t503 t504 t505 t510 t511 t512 t513 t514 bt521.1 bt521.2.1 bt521.2.2.1 bt521.2.2.2.1 bt521.2.2.2.2.1))))) = some true := H
      have A13 := Aside0.mk A130
      clear A130
      replace H := Option.bind_eq_some_iff.mp H
      obtain ⟨t518, A140, H⟩ := H
      replace H : ((impl_Recolour.f k t510 t511 t512 t513 t514 t518).bind fun bt521 => ((laws_eqPattern.f k bt521.1 bt521.2.1 bt521.2.2.1 bt521.2.2.2.1 bt521.2.2.2.2.1 t501 t502 t503 t504 t505).bind fun t530 => (if t530 = true then (laws_FnExactRecolour.j0 k l1 t508 t518 bt521.2.2.2.2.2 (bt521.2.2.2.2.2 != t508) a0_0 a0_1 a0_2 a0_3 l0_4 t501 t502 t503 t504 t505 t510 t511 t512 t513 t514 bt521.1 bt521.2.1 bt521.2.2.1 bt521.2.2.2.1 bt521.2.2.2.2.1) else (laws_FnExactRecolour.j0 k l1 t508 t518 bt521.2.2.2.2.2 true a0_0 a0_1 a0_2 a0_3 l0_4 t501 t502 t503 t504 t505 t510 t511 t512 t513 t514 bt521.1 bt521.2.1 bt521.2.2.1 bt521.2.2.2.1 bt521.2.2.2.2.1)))) = some true := H
      have A14 := Aside0.mk A140
      clear A140
      replace H := Option.bind_eq_some_iff.mp H
      obtain ⟨⟨t521, t522, t523, t524, t525, t528⟩, A150, H⟩ := H
      replace H : ((laws_eqPattern.f k t521 t522 t523 t524 t525 t501 t502 t503 t504 t505).bind fun t530 => (if t530 = true then (laws_FnExactRecolour.j0 k l1 t508 t518 t528 (t528 != t508) a0_0 a0_1 a0_2 a0_3 l0_4 t501 t502 t503 t504 t505 t510 t511 t512 t513 t514 t521 t522 t523 t524 t525) else (laws_FnExactRecolour.j0 k l1 t508 t518 t528 true a0_0 a0_1 a0_2 a0_3 l0_4 t501 t502 t503 t504 t505 t510 t511 t512 t513 t514 t521 t522 t523 t524 t525))) = some true := H
      have A15 := Aside0.mk A150
      clear A150
      have HC16 := Aside0.mk H
      clear H
      go_enter Try.func7, Try.ntmps7
      go_upto_region 11 with (first | ((with_reducible refine gate_dst (N := 2) rfl ?_); refine box_event ?hg (N := 2) ?hd (cs := #[.int .i64 a0_0, .int .i64 a0_1, .int .i64 a0_2, .int .i64 a0_3, .slice A0_4 l0_4.length c0_4]) (t := 26) ?hr ?_; (case hd => rfl); (case hg => rfl); (case hr => first | (go_simp; done) | (go_simp; rfl)); intro gb489 hg w17 hbox hb; have n0_ := Aside0.mk (below_step (by repeat (first | (with_reducible first | exact HB.out | apply below_alloc | apply pw_below_drewN | apply below_drew1) | exact HB.out)) hb); have n1_ := Aside0.mk (hbox); have n2_ := Aside0.mk ((by rw [hg]; exact (below_size (by repeat (first | (with_reducible first | exact HB.out | apply below_alloc | apply pw_below_drewN | apply below_drew1) | exact HB.out))) : w.heap.size ≤ gb489)); have n3_ := Aside0.mk ((by rw [hg]; exact (below_size (by repeat (first | (with_reducible first | exact HB.out | apply below_alloc | apply pw_below_drewN | apply below_drew1) | exact HB.out))) : w.heap.size ≤ gb489)); clear HB; have HB := n0_; have BK489 := n1_; have GW489 := n2_; have GE489 := n3_; clear n0_ n1_ n2_ n3_; clear hb hbox hg; have hcz18_0 : w17.cell? ⟨gb489, 0, none⟩ = some (.int .i64 a0_0) := (blk_cell BK489.out 0).trans rfl; have hcz18_1 : w17.cell? ⟨gb489, 1, none⟩ = some (.int .i64 a0_1) := (blk_cell BK489.out 1).trans rfl; have hcz18_2 : w17.cell? ⟨gb489, 2, none⟩ = some (.int .i64 a0_2) := (blk_cell BK489.out 2).trans rfl; have hcz18_3 : w17.cell? ⟨gb489, 3, none⟩ = some (.int .i64 a0_3) := (blk_cell BK489.out 3).trans rfl; have hcz18_4 : w17.cell? ⟨gb489, 4, none⟩ = some (.slice A0_4 l0_4.length c0_4) := (blk_cell BK489.out 4).trans rfl; have hfz18_0 := blk_frozen BK489.out 0; have hfz18_1 := blk_frozen BK489.out 1; have hfz18_2 := blk_frozen BK489.out 2; have hfz18_3 := blk_frozen BK489.out 3; have hfz18_4 := blk_frozen BK489.out 4) | ((with_reducible refine gate_callee (f := 10) rfl ?_); refine goesL_ (some 22) rfl rfl Try.func10 (by kernel_rfl) rfl #[.agg #[.int .i64 a0_0, .int .i64 a0_1, .int .i64 a0_2, .int .i64 a0_3, .slice A0_4 l0_4.length c0_4], .int .i64 1048576] rfl (by (try simp only [List.map_toArray, List.map_cons, List.map_nil]); first | done | rfl | (simp only [List.length_drop, List.length_take]; rfl)) ?_; (with_reducible refine (laws_szPattern.calls a0_0 a0_1 a0_2 a0_3 _ _ l0_4 1048576 t490 _ ?side1 ?side2 A5.out).mono ?_); (case side1 => repeat (first | exact (Kd.C_below HR0_4.out HB.out) | (with_reducible refine Kd.C_alloc ?_ _) | (with_reducible refine Kd.C_drewN ?_ _) | (with_reducible refine Kd.C_drew ?_))); (case side2 => exact HC0_4.out); rintro e w19 ⟨rfl, hb⟩; refine ⟨_, rfl, ?_⟩; have n0_ := Aside0.mk (blk_below (g := gb489) (o := .cells #[.int .i64 a0_0, .int .i64 a0_1, .int .i64 a0_2, .int .i64 a0_3, .slice A0_4 l0_4.length c0_4] 26 (0, 0)) (by (with_reducible repeat (first | refine blk_drewN ?_ _ | refine blk_drew ?_ | refine blk_alloc ?_ _)); exact BK489.out) hb); have n1_ := Aside0.mk (below_step (by repeat (first | (with_reducible first | exact HB.out | apply below_alloc | apply pw_below_drewN | apply below_drew1 | refine below_set ?_ GE489.out) | exact HB.out)) hb); clear BK489; clear HB; have BK489 := n0_; have HB := n1_; clear n0_ n1_; (try clear hb); (try clear hb2); (try clear hk); (try clear hi); have hcz20_0 : w19.cell? ⟨gb489, 0, none⟩ = some (.int .i64 a0_0) := (blk_cell BK489.out 0).trans rfl; have hcz20_1 : w19.cell? ⟨gb489, 1, none⟩ = some (.int .i64 a0_1) := (blk_cell BK489.out 1).trans rfl; have hcz20_2 : w19.cell? ⟨gb489, 2, none⟩ = some (.int .i64 a0_2) := (blk_cell BK489.out 2).trans rfl; have hcz20_3 : w19.cell? ⟨gb489, 3, none⟩ = some (.int .i64 a0_3) := (blk_cell BK489.out 3).trans rfl; have hcz20_4 : w19.cell? ⟨gb489, 4, none⟩ = some (.slice A0_4 l0_4.length c0_4) := (blk_cell BK489.out 4).trans rfl; have hfz20_0 := blk_frozen BK489.out 0; have hfz20_1 := blk_frozen BK489.out 1; have hfz20_2 := blk_frozen BK489.out 2; have hfz20_3 := blk_frozen BK489.out 3; have hfz20_4 := blk_frozen BK489.out 4) | ((with_reducible refine gate_callee (f := 12) rfl ?_); refine goesL_ (some 27) rfl rfl Try.func12 (by kernel_rfl) rfl #[.agg #[.int .i64 a0_0, .int .i64 a0_1, .int .i64 a0_2, .int .i64 a0_3, .slice A0_4 l0_4.length c0_4]] rfl (by (try simp only [List.map_toArray, List.map_cons, List.map_nil]); first | done | rfl | (simp only [List.length_drop, List.length_take]; rfl)) ?_; (with_reducible refine (laws_toPattern.calls k a0_0 a0_1 a0_2 a0_3 _ _ l0_4 t491 t492 t493 t494 t495 _ ?side1 ?side2 A10.out).mono ?_); (case side1 => repeat (first | exact (Kd.C_below HR0_4.out HB.out) | (with_reducible refine Kd.C_alloc ?_ _) | (with_reducible refine Kd.C_drewN ?_ _) | (with_reducible refine Kd.C_drew ?_))); (case side2 => exact HC0_4.out); rintro e w21 ⟨v496, rfl, ho0, hb⟩; refine ⟨_, rfl, ?_⟩; have n0_ := Aside0.mk (Kd.R_lower ho0 (below_size (by repeat (first | (with_reducible first | exact HB.out | apply below_alloc | apply pw_below_drewN | apply below_drew1 | refine below_set ?_ GE489.out) | exact HB.out)))); have n1_ := Aside0.mk (blk_below (g := gb489) (o := .cells #[.int .i64 a0_0, .int .i64 a0_1, .int .i64 a0_2, .int .i64 a0_3, .slice A0_4 l0_4.length c0_4] 26 (0, 0)) (by (with_reducible repeat (first | refine blk_drewN ?_ _ | refine blk_drew ?_ | refine blk_alloc ?_ _)); exact BK489.out) hb); have n2_ := Aside0.mk (below_step (by repeat (first | (with_reducible first | exact HB.out | apply below_alloc | apply pw_below_drewN | apply below_drew1 | refine below_set ?_ GE489.out) | exact HB.out)) hb); clear BK489; clear HB; have HO497 := n0_; have BK489 := n1_; have HB := n2_; clear n0_ n1_ n2_; (try clear hb); (try clear hb2); (try clear hk); (try clear hi); (try clear ho0)) | ((with_reducible refine gate_callee (f := 30) rfl ?_); refine goesL_ (some 29) rfl rfl Try.func30 (by kernel_rfl) rfl #[.slice A1 l1.length c1] rfl (by (try simp only [List.map_toArray, List.map_cons, List.map_nil]); first | done | rfl | (simp only [List.length_drop, List.length_take]; rfl)) ?_; (with_reducible refine (laws_toInt64S.calls k _ _ l1 t498 _ ?side1 ?side2 A11.out).mono ?_); (case side1 => repeat (first | exact (Kd.C_below HR1.out HB.out) | (with_reducible refine Kd.C_alloc ?_ _) | (with_reducible refine Kd.C_drewN ?_ _) | (with_reducible refine Kd.C_drew ?_))); (case side2 => exact HC1.out); rintro e w22 ⟨v499, rfl, ho0, hb⟩; refine ⟨_, rfl, ?_⟩; have n0_ := Aside0.mk (Kd.R_elder' (by (with_reducible repeat (first | apply Kd.R_alloc | apply Kd.R_drewN | apply Kd.R_drew)); exact HO497.out) (Kd.R_base ho0) hb); have n1_ := Aside0.mk (Kd.R_lower (Kd.R_new' ho0 (Kd.R_lt (by (with_reducible repeat (first | apply Kd.R_alloc | apply Kd.R_drewN | apply Kd.R_drew)); exact HO497.out))) (below_size (by repeat (first | (with_reducible first | exact HB.out | apply below_alloc | apply pw_below_drewN | apply below_drew1 | refine below_set ?_ GE489.out) | exact HB.out)))); have n2_ := Aside0.mk (blk_below (g := gb489) (o := .cells #[.int .i64 a0_0, .int .i64 a0_1, .int .i64 a0_2, .int .i64 a0_3, .slice A0_4 l0_4.length c0_4] 26 (0, 0)) (by (with_reducible repeat (first | refine blk_drewN ?_ _ | refine blk_drew ?_ | refine blk_alloc ?_ _)); exact BK489.out) hb); have n3_ := Aside0.mk (below_step (by repeat (first | (with_reducible first | exact HB.out | apply below_alloc | apply pw_below_drewN | apply below_drew1 | refine below_set ?_ GE489.out) | exact HB.out)) hb); clear HO497; clear BK489; clear HB; have HO497 := n0_; have HO500 := n1_; have BK489 := n2_; have HB := n3_; clear n0_ n1_ n2_ n3_; (try clear hb); (try clear hb2); (try clear hk); (try clear hi); (try clear ho0); obtain ⟨Ao23, co23, eo23⟩ := Kd.R_slice HO497.out; subst eo23; obtain ⟨Ao24, co24, eo24⟩ := Kd.R_slice HO500.out; subst eo24) | ((with_reducible refine gate_callee (f := 29) rfl ?_); refine goesL_ (some 30) rfl rfl Try.func29 (by kernel_rfl) rfl #[.agg #[.int .i64 t491, .int .i64 t492, .int .i64 t493, .int .i64 t494, .slice Ao23 t495.length co23], .slice Ao24 t498.length co24] rfl (by (try simp only [List.map_toArray, List.map_cons, List.map_nil]); first | done | rfl | (simp only [List.length_drop, List.length_take]; rfl)) ?_; (with_reducible refine (spec_Recolour.calls k t491 t492 t493 t494 _ _ t495 _ _ t498 t501 t502 t503 t504 t505 t508 _ ?side1 ?side2 ?side3 ?side4 A12.out).mono ?_); (case side1 => repeat (first | exact (Kd.R_reads' HO497.out).2.2 | (with_reducible refine Kd.C_alloc ?_ _) | (with_reducible refine Kd.C_drewN ?_ _) | (with_reducible refine Kd.C_drew ?_))); (case side2 => exact (Kd.R_reads' HO497.out).2.1); (case side3 => repeat (first | exact (Kd.R_reads' HO500.out).2.2 | (with_reducible refine Kd.C_alloc ?_ _) | (with_reducible refine Kd.C_drewN ?_ _) | (with_reducible refine Kd.C_drew ?_))); (case side4 => exact (Kd.R_reads' HO500.out).2.1); rintro e w25 ⟨v506, rfl, ho0, hb⟩; refine ⟨_, rfl, ?_⟩; have n0_ := Aside0.mk (Kd.R_elder' (by (with_reducible repeat (first | apply Kd.R_alloc | apply Kd.R_drewN | apply Kd.R_drew)); exact HO497.out) (Kd.R_base ho0) hb); have n1_ := Aside0.mk (Kd.R_elder' (by (with_reducible repeat (first | apply Kd.R_alloc | apply Kd.R_drewN | apply Kd.R_drew)); exact HO500.out) (Kd.R_base ho0) hb); have n2_ := Aside0.mk (Kd.R_lower (Kd.R_new' (Kd.R_new' ho0 (Kd.R_lt (by (with_reducible repeat (first | apply Kd.R_alloc | apply Kd.R_drewN | apply Kd.R_drew)); exact HO497.out))) (Kd.R_lt (by (with_reducible repeat (first | apply Kd.R_alloc | apply Kd.R_drewN | apply Kd.R_drew)); exact HO500.out))) (below_size (by repeat (first | (with_reducible first | exact HB.out | apply below_alloc | apply pw_below_drewN | apply below_drew1 | refine below_set ?_ GE489.out) | exact HB.out)))); have n3_ := Aside0.mk (blk_below (g := gb489) (o := .cells #[.int .i64 a0_0, .int .i64 a0_1, .int .i64 a0_2, .int .i64 a0_3, .slice A0_4 l0_4.length c0_4] 26 (0, 0)) (by (with_reducible repeat (first | refine blk_drewN ?_ _ | refine blk_drew ?_ | refine blk_alloc ?_ _)); exact BK489.out) hb); have n4_ := Aside0.mk (below_step (by repeat (first | (with_reducible first | exact HB.out | apply below_alloc | apply pw_below_drewN | apply below_drew1 | refine below_set ?_ GE489.out) | exact HB.out)) hb); clear HO497; clear HO500; clear BK489; clear HB; have HO497 := n0_; have HO500 := n1_; have HO507 := n2_; have BK489 := n3_; have HB := n4_; clear n0_ n1_ n2_ n3_ n4_; (try clear hb); (try clear hb2); (try clear hk); (try clear hi); (try clear ho0)) | ((with_reducible refine gate_dst (N := 6) rfl ?_); refine box_event ?hg (N := 6) ?hd (cs := #[.int .i64 0, .int .i64 0, .int .i64 0, .int .i64 0, .slice none 0 0]) (t := 31) ?hr ?_; (case hd => rfl); (case hg => rfl); (case hr => first | (go_simp; done) | (go_simp; rfl)); intro gb509 hg w26 hbox hb; have n0_ := Aside0.mk (Kd.R_below (by (with_reducible repeat (first | apply Kd.R_alloc | apply Kd.R_drewN | apply Kd.R_drew)); exact HO497.out) hb); have n1_ := Aside0.mk (Kd.R_below (by (with_reducible repeat (first | apply Kd.R_alloc | apply Kd.R_drewN | apply Kd.R_drew)); exact HO500.out) hb); have n2_ := Aside0.mk (Kd.R_below (by (with_reducible repeat (first | apply Kd.R_alloc | apply Kd.R_drewN | apply Kd.R_drew)); exact HO507.out) hb); have n3_ := Aside0.mk (blk_below (g := gb489) (o := .cells #[.int .i64 a0_0, .int .i64 a0_1, .int .i64 a0_2, .int .i64 a0_3, .slice A0_4 l0_4.length c0_4] 26 (0, 0)) (by (with_reducible repeat (first | refine blk_drewN ?_ _ | refine blk_drew ?_ | refine blk_alloc ?_ _)); exact BK489.out) hb); have n4_ := Aside0.mk (below_step (by repeat (first | (with_reducible first | exact HB.out | apply below_alloc | apply pw_below_drewN | apply below_drew1 | refine below_set ?_ GE489.out) | exact HB.out)) hb); have n5_ := Aside0.mk (hbox); have n6_ := Aside0.mk ((by rw [hg]; exact (below_size (by repeat (first | (with_reducible first | exact HB.out | apply below_alloc | apply pw_below_drewN | apply below_drew1 | refine below_set ?_ GE489.out) | exact HB.out))) : w.heap.size ≤ gb509)); have n7_ := Aside0.mk ((by rw [hg]; exact (below_size (by repeat (first | (with_reducible first | exact HB.out | apply below_alloc | apply pw_below_drewN | apply below_drew1 | refine below_set ?_ GE489.out) | exact HB.out))) : w.heap.size ≤ gb509)); have n8_ := Aside0.mk ((by rw [hg]; exact Nat.ne_of_lt (blk_lt (g := gb489) (o := .cells #[.int .i64 a0_0, .int .i64 a0_1, .int .i64 a0_2, .int .i64 a0_3, .slice A0_4 l0_4.length c0_4] 26 (0, 0)) (by (with_reducible repeat (first | refine blk_drewN ?_ _ | refine blk_drew ?_ | refine blk_alloc ?_ _)); exact BK489.out)) : gb489 ≠ gb509)); have n9_ := Aside0.mk ((by rw [hg]; exact Nat.ne_of_gt (blk_lt (g := gb489) (o := .cells #[.int .i64 a0_0, .int .i64 a0_1, .int .i64 a0_2, .int .i64 a0_3, .slice A0_4 l0_4.length c0_4] 26 (0, 0)) (by (with_reducible repeat (first | refine blk_drewN ?_ _ | refine blk_drew ?_ | refine blk_alloc ?_ _)); exact BK489.out)) : gb509 ≠ gb489)); clear HO497; clear HO500; clear HO507; clear BK489; clear HB; have HO497 := n0_; have HO500 := n1_; have HO507 := n2_; have BK489 := n3_; have HB := n4_; have BK509 := n5_; have GW509 := n6_; have GE509 := n7_; have NB489_509 := n8_; have NB509_489 := n9_; clear n0_ n1_ n2_ n3_ n4_ n5_ n6_ n7_ n8_ n9_; clear hb hbox hg; have hnb27 := NB509_489.out; have hnc27 := NB489_509.out; have hcz28_0 : w26.cell? ⟨gb509, 0, none⟩ = some (.int .i64 0) := (blk_cell BK509.out 0).trans rfl; have hcz28_1 : w26.cell? ⟨gb509, 1, none⟩ = some (.int .i64 0) := (blk_cell BK509.out 1).trans rfl; have hcz28_2 : w26.cell? ⟨gb509, 2, none⟩ = some (.int .i64 0) := (blk_cell BK509.out 2).trans rfl; have hcz28_3 : w26.cell? ⟨gb509, 3, none⟩ = some (.int .i64 0) := (blk_cell BK509.out 3).trans rfl; have hcz28_4 : w26.cell? ⟨gb509, 4, none⟩ = some (.slice none 0 0) := (blk_cell BK509.out 4).trans rfl; have hfz28_0 := blk_frozen BK509.out 0; have hfz28_1 := blk_frozen BK509.out 1; have hfz28_2 := blk_frozen BK509.out 2; have hfz28_3 := blk_frozen BK509.out 3; have hfz28_4 := blk_frozen BK509.out 4; obtain ⟨Ao29, co29, eo29⟩ := Kd.R_slice HO507.out; subst eo29; have hcz30_0 : w26.cell? ⟨gb489, 0, none⟩ = some (.int .i64 a0_0) := (blk_cell BK489.out 0).trans rfl; have hcz30_1 : w26.cell? ⟨gb489, 1, none⟩ = some (.int .i64 a0_1) := (blk_cell BK489.out 1).trans rfl; have hcz30_2 : w26.cell? ⟨gb489, 2, none⟩ = some (.int .i64 a0_2) := (blk_cell BK489.out 2).trans rfl; have hcz30_3 : w26.cell? ⟨gb489, 3, none⟩ = some (.int .i64 a0_3) := (blk_cell BK489.out 3).trans rfl; have hcz30_4 : w26.cell? ⟨gb489, 4, none⟩ = some (.slice A0_4 l0_4.length c0_4) := (blk_cell BK489.out 4).trans rfl; have hfz30_0 := blk_frozen BK489.out 0; have hfz30_1 := blk_frozen BK489.out 1; have hfz30_2 := blk_frozen BK489.out 2; have hfz30_3 := blk_frozen BK489.out 3; have hfz30_4 := blk_frozen BK489.out 4) | ((with_reducible refine gate_callee (f := 12) rfl ?_); refine goesL_ (some 34) rfl rfl Try.func12 (by kernel_rfl) rfl #[.agg #[.int .i64 a0_0, .int .i64 a0_1, .int .i64 a0_2, .int .i64 a0_3, .slice A0_4 l0_4.length c0_4]] rfl (by (try simp only [List.map_toArray, List.map_cons, List.map_nil]); first | done | rfl | (simp only [List.length_drop, List.length_take]; rfl)) ?_; (with_reducible refine (laws_toPattern.calls k a0_0 a0_1 a0_2 a0_3 _ _ l0_4 t510 t511 t512 t513 t514 _ ?side1 ?side2 A13.out).mono ?_); (case side1 => exact Kd.C_below HR0_4.out (by repeat (first | (with_reducible first | exact HB.out | apply below_alloc | apply pw_below_drewN | apply below_drew1 | refine below_set ?_ GE489.out | refine below_set ?_ GE509.out) | exact HB.out))); (case side2 => exact HC0_4.out); rintro e w31 ⟨v515, rfl, ho0, hb⟩; refine ⟨_, rfl, ?_⟩; have n0_ := Aside0.mk (Kd.R_elder' (by (with_reducible repeat (first | apply Kd.R_alloc | apply Kd.R_drewN | apply Kd.R_drew)); exact (Kd.R_mono (Kd.R_far (p := ⟨gb509, 4, none⟩) (Kd.R_far (p := ⟨gb509, 3, none⟩) (Kd.R_far (p := ⟨gb509, 2, none⟩) (Kd.R_far (p := ⟨gb509, 1, none⟩) (Kd.R_far (p := ⟨gb509, 0, none⟩) (Kd.R_types HO497.out BK509.out (by decide)) (fun _ hk => hk.2) (.int .i64 t501)) (fun _ hk => hk.2) (.int .i64 t502)) (fun _ hk => hk.2) (.int .i64 t503)) (fun _ hk => hk.2) (.int .i64 t504)) (fun _ hk => hk.2) (.slice Ao29 t505.length co29)) (fun _ h_ => h_.1))) (Kd.R_base ho0) hb); have n1_ := Aside0.mk (Kd.R_elder' (by (with_reducible repeat (first | apply Kd.R_alloc | apply Kd.R_drewN | apply Kd.R_drew)); exact (Kd.R_mono (Kd.R_far (p := ⟨gb509, 4, none⟩) (Kd.R_far (p := ⟨gb509, 3, none⟩) (Kd.R_far (p := ⟨gb509, 2, none⟩) (Kd.R_far (p := ⟨gb509, 1, none⟩) (Kd.R_far (p := ⟨gb509, 0, none⟩) (Kd.R_types HO500.out BK509.out (by decide)) (fun _ hk => hk.2) (.int .i64 t501)) (fun _ hk => hk.2) (.int .i64 t502)) (fun _ hk => hk.2) (.int .i64 t503)) (fun _ hk => hk.2) (.int .i64 t504)) (fun _ hk => hk.2) (.slice Ao29 t505.length co29)) (fun _ h_ => h_.1))) (Kd.R_base ho0) hb); have n2_ := Aside0.mk (Kd.R_elder' (by (with_reducible repeat (first | apply Kd.R_alloc | apply Kd.R_drewN | apply Kd.R_drew)); exact (Kd.R_mono (Kd.R_far (p := ⟨gb509, 4, none⟩) (Kd.R_far (p := ⟨gb509, 3, none⟩) (Kd.R_far (p := ⟨gb509, 2, none⟩) (Kd.R_far (p := ⟨gb509, 1, none⟩) (Kd.R_far (p := ⟨gb509, 0, none⟩) (Kd.R_types HO507.out BK509.out (by decide)) (fun _ hk => hk.2) (.int .i64 t501)) (fun _ hk => hk.2) (.int .i64 t502)) (fun _ hk => hk.2) (.int .i64 t503)) (fun _ hk => hk.2) (.int .i64 t504)) (fun _ hk => hk.2) (.slice Ao29 t505.length co29)) (fun _ h_ => h_.1))) (Kd.R_base ho0) hb); have n3_ := Aside0.mk (Kd.R_lower (Kd.R_new' (Kd.R_new' (Kd.R_new' ho0 (Kd.R_lt (by (with_reducible repeat (first | apply Kd.R_alloc | apply Kd.R_drewN | apply Kd.R_drew)); exact (Kd.R_mono (Kd.R_far (p := ⟨gb509, 4, none⟩) (Kd.R_far (p := ⟨gb509, 3, none⟩) (Kd.R_far (p := ⟨gb509, 2, none⟩) (Kd.R_far (p := ⟨gb509, 1, none⟩) (Kd.R_far (p := ⟨gb509, 0, none⟩) (Kd.R_types HO497.out BK509.out (by decide)) (fun _ hk => hk.2) (.int .i64 t501)) (fun _ hk => hk.2) (.int .i64 t502)) (fun _ hk => hk.2) (.int .i64 t503)) (fun _ hk => hk.2) (.int .i64 t504)) (fun _ hk => hk.2) (.slice Ao29 t505.length co29)) (fun _ h_ => h_.1))))) (Kd.R_lt (by (with_reducible repeat (first | apply Kd.R_alloc | apply Kd.R_drewN | apply Kd.R_drew)); exact (Kd.R_mono (Kd.R_far (p := ⟨gb509, 4, none⟩) (Kd.R_far (p := ⟨gb509, 3, none⟩) (Kd.R_far (p := ⟨gb509, 2, none⟩) (Kd.R_far (p := ⟨gb509, 1, none⟩) (Kd.R_far (p := ⟨gb509, 0, none⟩) (Kd.R_types HO500.out BK509.out (by decide)) (fun _ hk => hk.2) (.int .i64 t501)) (fun _ hk => hk.2) (.int .i64 t502)) (fun _ hk => hk.2) (.int .i64 t503)) (fun _ hk => hk.2) (.int .i64 t504)) (fun _ hk => hk.2) (.slice Ao29 t505.length co29)) (fun _ h_ => h_.1))))) (Kd.R_lt (by (with_reducible repeat (first | apply Kd.R_alloc | apply Kd.R_drewN | apply Kd.R_drew)); exact (Kd.R_mono (Kd.R_far (p := ⟨gb509, 4, none⟩) (Kd.R_far (p := ⟨gb509, 3, none⟩) (Kd.R_far (p := ⟨gb509, 2, none⟩) (Kd.R_far (p := ⟨gb509, 1, none⟩) (Kd.R_far (p := ⟨gb509, 0, none⟩) (Kd.R_types HO507.out BK509.out (by decide)) (fun _ hk => hk.2) (.int .i64 t501)) (fun _ hk => hk.2) (.int .i64 t502)) (fun _ hk => hk.2) (.int .i64 t503)) (fun _ hk => hk.2) (.int .i64 t504)) (fun _ hk => hk.2) (.slice Ao29 t505.length co29)) (fun _ h_ => h_.1))))) (below_size (by repeat (first | (with_reducible first | exact HB.out | apply below_alloc | apply pw_below_drewN | apply below_drew1 | refine below_set ?_ GE489.out | refine below_set ?_ GE509.out) | exact HB.out)))); have n4_ := Aside0.mk (blk_below (g := gb489) (o := .cells #[.int .i64 a0_0, .int .i64 a0_1, .int .i64 a0_2, .int .i64 a0_3, .slice A0_4 l0_4.length c0_4] 26 (0, 0)) (by (with_reducible repeat (first | refine blk_drewN ?_ _ | refine blk_drew ?_ | refine blk_alloc ?_ _)); refine blk_far ?_ NB489_509.out _; (with_reducible repeat (first | refine blk_drewN ?_ _ | refine blk_drew ?_ | refine blk_alloc ?_ _)); refine blk_far ?_ NB489_509.out _; (with_reducible repeat (first | refine blk_drewN ?_ _ | refine blk_drew ?_ | refine blk_alloc ?_ _)); refine blk_far ?_ NB489_509.out _; (with_reducible repeat (first | refine blk_drewN ?_ _ | refine blk_drew ?_ | refine blk_alloc ?_ _)); refine blk_far ?_ NB489_509.out _; (with_reducible repeat (first | refine blk_drewN ?_ _ | refine blk_drew ?_ | refine blk_alloc ?_ _)); refine blk_far ?_ NB489_509.out _; (with_reducible repeat (first | refine blk_drewN ?_ _ | refine blk_drew ?_ | refine blk_alloc ?_ _)); exact BK489.out) hb); have n5_ := Aside0.mk (blk_below (g := gb509) (o := .cells #[.int .i64 t501, .int .i64 t502, .int .i64 t503, .int .i64 t504, .slice Ao29 t505.length co29] 31 (0, 0)) (by (with_reducible repeat (first | refine blk_drewN ?_ _ | refine blk_drew ?_ | refine blk_alloc ?_ _)); refine blk_put (cs := #[.int .i64 t501, .int .i64 t502, .int .i64 t503, .int .i64 t504, .slice none 0 0]) ?_ 4 _ rfl; (with_reducible repeat (first | refine blk_drewN ?_ _ | refine blk_drew ?_ | refine blk_alloc ?_ _)); refine blk_put (cs := #[.int .i64 t501, .int .i64 t502, .int .i64 t503, .int .i64 0, .slice none 0 0]) ?_ 3 _ rfl; (with_reducible repeat (first | refine blk_drewN ?_ _ | refine blk_drew ?_ | refine blk_alloc ?_ _)); refine blk_put (cs := #[.int .i64 t501, .int .i64 t502, .int .i64 0, .int .i64 0, .slice none 0 0]) ?_ 2 _ rfl; (with_reducible repeat (first | refine blk_drewN ?_ _ | refine blk_drew ?_ | refine blk_alloc ?_ _)); refine blk_put (cs := #[.int .i64 t501, .int .i64 0, .int .i64 0, .int .i64 0, .slice none 0 0]) ?_ 1 _ rfl; (with_reducible repeat (first | refine blk_drewN ?_ _ | refine blk_drew ?_ | refine blk_alloc ?_ _)); refine blk_put (cs := #[.int .i64 0, .int .i64 0, .int .i64 0, .int .i64 0, .slice none 0 0]) ?_ 0 _ rfl; (with_reducible repeat (first | refine blk_drewN ?_ _ | refine blk_drew ?_ | refine blk_alloc ?_ _)); exact BK509.out) hb); have n6_ := Aside0.mk (below_step (by repeat (first | (with_reducible first | exact HB.out | apply below_alloc | apply pw_below_drewN | apply below_drew1 | refine below_set ?_ GE489.out | refine below_set ?_ GE509.out) | exact HB.out)) hb); clear HO497; clear HO500; clear HO507; clear BK489; clear BK509; clear HB; have HO497 := n0_; have HO500 := n1_; have HO507 := n2_; have HO516 := n3_; have BK489 := n4_; have BK509 := n5_; have HB := n6_; clear n0_ n1_ n2_ n3_ n4_ n5_ n6_; (try clear hb); (try clear hb2); (try clear hk); (try clear hi); (try clear ho0)) | ((with_reducible refine gate_dst (N := 8) rfl ?_); refine box_event ?hg (N := 8) ?hd (cs := #[.int .i64 0, .int .i64 0, .int .i64 0, .int .i64 0, .slice none 0 0]) (t := 31) ?hr ?_; (case hd => rfl); (case hg => rfl); (case hr => first | (go_simp; done) | (go_simp; rfl)); intro gb517 hg w32 hbox hb; have n0_ := Aside0.mk (Kd.R_below (by (with_reducible repeat (first | apply Kd.R_alloc | apply Kd.R_drewN | apply Kd.R_drew)); exact HO497.out) hb); have n1_ := Aside0.mk (Kd.R_below (by (with_reducible repeat (first | apply Kd.R_alloc | apply Kd.R_drewN | apply Kd.R_drew)); exact HO500.out) hb); have n2_ := Aside0.mk (Kd.R_below (by (with_reducible repeat (first | apply Kd.R_alloc | apply Kd.R_drewN | apply Kd.R_drew)); exact HO507.out) hb); have n3_ := Aside0.mk (Kd.R_below (by (with_reducible repeat (first | apply Kd.R_alloc | apply Kd.R_drewN | apply Kd.R_drew)); exact HO516.out) hb); have n4_ := Aside0.mk (blk_below (g := gb489) (o := .cells #[.int .i64 a0_0, .int .i64 a0_1, .int .i64 a0_2, .int .i64 a0_3, .slice A0_4 l0_4.length c0_4] 26 (0, 0)) (by (with_reducible repeat (first | refine blk_drewN ?_ _ | refine blk_drew ?_ | refine blk_alloc ?_ _)); exact BK489.out) hb); have n5_ := Aside0.mk (blk_below (g := gb509) (o := .cells #[.int .i64 t501, .int .i64 t502, .int .i64 t503, .int .i64 t504, .slice Ao29 t505.length co29] 31 (0, 0)) (by (with_reducible repeat (first | refine blk_drewN ?_ _ | refine blk_drew ?_ | refine blk_alloc ?_ _)); exact BK509.out) hb); have n6_ := Aside0.mk (below_step (by repeat (first | (with_reducible first | exact HB.out | apply below_alloc | apply pw_below_drewN | apply below_drew1 | refine below_set ?_ GE489.out | refine below_set ?_ GE509.out) | exact HB.out)) hb); have n7_ := Aside0.mk (hbox); have n8_ := Aside0.mk ((by rw [hg]; exact (below_size (by repeat (first | (with_reducible first | exact HB.out | apply below_alloc | apply pw_below_drewN | apply below_drew1 | refine below_set ?_ GE489.out | refine below_set ?_ GE509.out) | exact HB.out))) : w.heap.size ≤ gb517)); have n9_ := Aside0.mk ((by rw [hg]; exact (below_size (by repeat (first | (with_reducible first | exact HB.out | apply below_alloc | apply pw_below_drewN | apply below_drew1 | refine below_set ?_ GE489.out | refine below_set ?_ GE509.out) | exact HB.out))) : w.heap.size ≤ gb517)); have n10_ := Aside0.mk ((by rw [hg]; exact Nat.ne_of_lt (blk_lt (g := gb489) (o := .cells #[.int .i64 a0_0, .int .i64 a0_1, .int .i64 a0_2, .int .i64 a0_3, .slice A0_4 l0_4.length c0_4] 26 (0, 0)) (by (with_reducible repeat (first | refine blk_drewN ?_ _ | refine blk_drew ?_ | refine blk_alloc ?_ _)); exact BK489.out)) : gb489 ≠ gb517)); have n11_ := Aside0.mk ((by rw [hg]; exact Nat.ne_of_gt (blk_lt (g := gb489) (o := .cells #[.int .i64 a0_0, .int .i64 a0_1, .int .i64 a0_2, .int .i64 a0_3, .slice A0_4 l0_4.length c0_4] 26 (0, 0)) (by (with_reducible repeat (first | refine blk_drewN ?_ _ | refine blk_drew ?_ | refine blk_alloc ?_ _)); exact BK489.out)) : gb517 ≠ gb489)); have n12_ := Aside0.mk ((by rw [hg]; exact Nat.ne_of_lt (blk_lt (g := gb509) (o := .cells #[.int .i64 t501, .int .i64 t502, .int .i64 t503, .int .i64 t504, .slice Ao29 t505.length co29] 31 (0, 0)) (by (with_reducible repeat (first | refine blk_drewN ?_ _ | refine blk_drew ?_ | refine blk_alloc ?_ _)); exact BK509.out)) : gb509 ≠ gb517)); have n13_ := Aside0.mk ((by rw [hg]; exact Nat.ne_of_gt (blk_lt (g := gb509) (o := .cells #[.int .i64 t501, .int .i64 t502, .int .i64 t503, .int .i64 t504, .slice Ao29 t505.length co29] 31 (0, 0)) (by (with_reducible repeat (first | refine blk_drewN ?_ _ | refine blk_drew ?_ | refine blk_alloc ?_ _)); exact BK509.out)) : gb517 ≠ gb509)); clear HO497; clear HO500; clear HO507; clear HO516; clear BK489; clear BK509; clear HB; have HO497 := n0_; have HO500 := n1_; have HO507 := n2_; have HO516 := n3_; have BK489 := n4_; have BK509 := n5_; have HB := n6_; have BK517 := n7_; have GW517 := n8_; have GE517 := n9_; have NB489_517 := n10_; have NB517_489 := n11_; have NB509_517 := n12_; have NB517_509 := n13_; clear n0_ n1_ n2_ n3_ n4_ n5_ n6_ n7_ n8_ n9_ n10_ n11_ n12_ n13_; clear hb hbox hg; have hnb33 := NB517_489.out; have hnc33 := NB489_517.out; have hnb34 := NB517_509.out; have hnc34 := NB509_517.out; have hcz35_0 : w32.cell? ⟨gb517, 0, none⟩ = some (.int .i64 0) := (blk_cell BK517.out 0).trans rfl; have hcz35_1 : w32.cell? ⟨gb517, 1, none⟩ = some (.int .i64 0) := (blk_cell BK517.out 1).trans rfl; have hcz35_2 : w32.cell? ⟨gb517, 2, none⟩ = some (.int .i64 0) := (blk_cell BK517.out 2).trans rfl; have hcz35_3 : w32.cell? ⟨gb517, 3, none⟩ = some (.int .i64 0) := (blk_cell BK517.out 3).trans rfl; have hcz35_4 : w32.cell? ⟨gb517, 4, none⟩ = some (.slice none 0 0) := (blk_cell BK517.out 4).trans rfl; have hfz35_0 := blk_frozen BK517.out 0; have hfz35_1 := blk_frozen BK517.out 1; have hfz35_2 := blk_frozen BK517.out 2; have hfz35_3 := blk_frozen BK517.out 3; have hfz35_4 := blk_frozen BK517.out 4; obtain ⟨Ao36, co36, eo36⟩ := Kd.R_slice HO516.out; subst eo36) | ((with_reducible refine gate_callee (f := 30) rfl ?_); refine goesL_ (some 36) rfl rfl Try.func30 (by kernel_rfl) rfl #[.slice A1 l1.length c1] rfl (by (try simp only [List.map_toArray, List.map_cons, List.map_nil]); first | done | rfl | (simp only [List.length_drop, List.length_take]; rfl)) ?_; (with_reducible refine (laws_toInt64S.calls k _ _ l1 t518 _ ?side1 ?side2 A14.out).mono ?_); (case side1 => exact Kd.C_below HR1.out (by repeat (first | (with_reducible first | exact HB.out | apply below_alloc | apply pw_below_drewN | apply below_drew1 | refine below_set ?_ GE489.out | refine below_set ?_ GE509.out | refine below_set ?_ GE517.out) | exact HB.out))); (case side2 => exact HC1.out); rintro e w37 ⟨v519, rfl, ho0, hb⟩; refine ⟨_, rfl, ?_⟩; have n0_ := Aside0.mk (Kd.R_elder' (by (with_reducible repeat (first | apply Kd.R_alloc | apply Kd.R_drewN | apply Kd.R_drew)); exact (Kd.R_mono (Kd.R_far (p := ⟨gb517, 4, none⟩) (Kd.R_far (p := ⟨gb517, 3, none⟩) (Kd.R_far (p := ⟨gb517, 2, none⟩) (Kd.R_far (p := ⟨gb517, 1, none⟩) (Kd.R_far (p := ⟨gb517, 0, none⟩) (Kd.R_types HO497.out BK517.out (by decide)) (fun _ hk => hk.2) (.int .i64 t510)) (fun _ hk => hk.2) (.int .i64 t511)) (fun _ hk => hk.2) (.int .i64 t512)) (fun _ hk => hk.2) (.int .i64 t513)) (fun _ hk => hk.2) (.slice Ao36 t514.length co36)) (fun _ h_ => h_.1))) (Kd.R_base ho0) hb); have n1_ := Aside0.mk (Kd.R_elder' (by (with_reducible repeat (first | apply Kd.R_alloc | apply Kd.R_drewN | apply Kd.R_drew)); exact (Kd.R_mono (Kd.R_far (p := ⟨gb517, 4, none⟩) (Kd.R_far (p := ⟨gb517, 3, none⟩) (Kd.R_far (p := ⟨gb517, 2, none⟩) (Kd.R_far (p := ⟨gb517, 1, none⟩) (Kd.R_far (p := ⟨gb517, 0, none⟩) (Kd.R_types HO500.out BK517.out (by decide)) (fun _ hk => hk.2) (.int .i64 t510)) (fun _ hk => hk.2) (.int .i64 t511)) (fun _ hk => hk.2) (.int .i64 t512)) (fun _ hk => hk.2) (.int .i64 t513)) (fun _ hk => hk.2) (.slice Ao36 t514.length co36)) (fun _ h_ => h_.1))) (Kd.R_base ho0) hb); have n2_ := Aside0.mk (Kd.R_elder' (by (with_reducible repeat (first | apply Kd.R_alloc | apply Kd.R_drewN | apply Kd.R_drew)); exact (Kd.R_mono (Kd.R_far (p := ⟨gb517, 4, none⟩) (Kd.R_far (p := ⟨gb517, 3, none⟩) (Kd.R_far (p := ⟨gb517, 2, none⟩) (Kd.R_far (p := ⟨gb517, 1, none⟩) (Kd.R_far (p := ⟨gb517, 0, none⟩) (Kd.R_types HO507.out BK517.out (by decide)) (fun _ hk => hk.2) (.int .i64 t510)) (fun _ hk => hk.2) (.int .i64 t511)) (fun _ hk => hk.2) (.int .i64 t512)) (fun _ hk => hk.2) (.int .i64 t513)) (fun _ hk => hk.2) (.slice Ao36 t514.length co36)) (fun _ h_ => h_.1))) (Kd.R_base ho0) hb); have n3_ := Aside0.mk (Kd.R_elder' (by (with_reducible repeat (first | apply Kd.R_alloc | apply Kd.R_drewN | apply Kd.R_drew)); exact (Kd.R_mono (Kd.R_far (p := ⟨gb517, 4, none⟩) (Kd.R_far (p := ⟨gb517, 3, none⟩) (Kd.R_far (p := ⟨gb517, 2, none⟩) (Kd.R_far (p := ⟨gb517, 1, none⟩) (Kd.R_far (p := ⟨gb517, 0, none⟩) (Kd.R_types HO516.out BK517.out (by decide)) (fun _ hk => hk.2) (.int .i64 t510)) (fun _ hk => hk.2) (.int .i64 t511)) (fun _ hk => hk.2) (.int .i64 t512)) (fun _ hk => hk.2) (.int .i64 t513)) (fun _ hk => hk.2) (.slice Ao36 t514.length co36)) (fun _ h_ => h_.1))) (Kd.R_base ho0) hb); have n4_ := Aside0.mk (Kd.R_lower (Kd.R_new' (Kd.R_new' (Kd.R_new' (Kd.R_new' ho0 (Kd.R_lt (by (with_reducible repeat (first | apply Kd.R_alloc | apply Kd.R_drewN | apply Kd.R_drew)); exact (Kd.R_mono (Kd.R_far (p := ⟨gb517, 4, none⟩) (Kd.R_far (p := ⟨gb517, 3, none⟩) (Kd.R_far (p := ⟨gb517, 2, none⟩) (Kd.R_far (p := ⟨gb517, 1, none⟩) (Kd.R_far (p := ⟨gb517, 0, none⟩) (Kd.R_types HO497.out BK517.out (by decide)) (fun _ hk => hk.2) (.int .i64 t510)) (fun _ hk => hk.2) (.int .i64 t511)) (fun _ hk => hk.2) (.int .i64 t512)) (fun _ hk => hk.2) (.int .i64 t513)) (fun _ hk => hk.2) (.slice Ao36 t514.length co36)) (fun _ h_ => h_.1))))) (Kd.R_lt (by (with_reducible repeat (first | apply Kd.R_alloc | apply Kd.R_drewN | apply Kd.R_drew)); exact (Kd.R_mono (Kd.R_far (p := ⟨gb517, 4, none⟩) (Kd.R_far (p := ⟨gb517, 3, none⟩) (Kd.R_far (p := ⟨gb517, 2, none⟩) (Kd.R_far (p := ⟨gb517, 1, none⟩) (Kd.R_far (p := ⟨gb517, 0, none⟩) (Kd.R_types HO500.out BK517.out (by decide)) (fun _ hk => hk.2) (.int .i64 t510)) (fun _ hk => hk.2) (.int .i64 t511)) (fun _ hk => hk.2) (.int .i64 t512)) (fun _ hk => hk.2) (.int .i64 t513)) (fun _ hk => hk.2) (.slice Ao36 t514.length co36)) (fun _ h_ => h_.1))))) (Kd.R_lt (by (with_reducible repeat (first | apply Kd.R_alloc | apply Kd.R_drewN | apply Kd.R_drew)); exact (Kd.R_mono (Kd.R_far (p := ⟨gb517, 4, none⟩) (Kd.R_far (p := ⟨gb517, 3, none⟩) (Kd.R_far (p := ⟨gb517, 2, none⟩) (Kd.R_far (p := ⟨gb517, 1, none⟩) (Kd.R_far (p := ⟨gb517, 0, none⟩) (Kd.R_types HO507.out BK517.out (by decide)) (fun _ hk => hk.2) (.int .i64 t510)) (fun _ hk => hk.2) (.int .i64 t511)) (fun _ hk => hk.2) (.int .i64 t512)) (fun _ hk => hk.2) (.int .i64 t513)) (fun _ hk => hk.2) (.slice Ao36 t514.length co36)) (fun _ h_ => h_.1))))) (Kd.R_lt (by (with_reducible repeat (first | apply Kd.R_alloc | apply Kd.R_drewN | apply Kd.R_drew)); exact (Kd.R_mono (Kd.R_far (p := ⟨gb517, 4, none⟩) (Kd.R_far (p := ⟨gb517, 3, none⟩) (Kd.R_far (p := ⟨gb517, 2, none⟩) (Kd.R_far (p := ⟨gb517, 1, none⟩) (Kd.R_far (p := ⟨gb517, 0, none⟩) (Kd.R_types HO516.out BK517.out (by decide)) (fun _ hk => hk.2) (.int .i64 t510)) (fun _ hk => hk.2) (.int .i64 t511)) (fun _ hk => hk.2) (.int .i64 t512)) (fun _ hk => hk.2) (.int .i64 t513)) (fun _ hk => hk.2) (.slice Ao36 t514.length co36)) (fun _ h_ => h_.1))))) (below_size (by repeat (first | (with_reducible first | exact HB.out | apply below_alloc | apply pw_below_drewN | apply below_drew1 | refine below_set ?_ GE489.out | refine below_set ?_ GE509.out | refine below_set ?_ GE517.out) | exact HB.out)))); have n5_ := Aside0.mk (blk_below (g := gb489) (o := .cells #[.int .i64 a0_0, .int .i64 a0_1, .int .i64 a0_2, .int .i64 a0_3, .slice A0_4 l0_4.length c0_4] 26 (0, 0)) (by (with_reducible repeat (first | refine blk_drewN ?_ _ | refine blk_drew ?_ | refine blk_alloc ?_ _)); refine blk_far ?_ NB489_517.out _; (with_reducible repeat (first | refine blk_drewN ?_ _ | refine blk_drew ?_ | refine blk_alloc ?_ _)); refine blk_far ?_ NB489_517.out _; (with_reducible repeat (first | refine blk_drewN ?_ _ | refine blk_drew ?_ | refine blk_alloc ?_ _)); refine blk_far ?_ NB489_517.out _; (with_reducible repeat (first | refine blk_drewN ?_ _ | refine blk_drew ?_ | refine blk_alloc ?_ _)); refine blk_far ?_ NB489_517.out _; (with_reducible repeat (first | refine blk_drewN ?_ _ | refine blk_drew ?_ | refine blk_alloc ?_ _)); refine blk_far ?_ NB489_517.out _; (with_reducible repeat (first | refine blk_drewN ?_ _ | refine blk_drew ?_ | refine blk_alloc ?_ _)); exact BK489.out) hb); have n6_ := Aside0.mk (blk_below (g := gb509) (o := .cells #[.int .i64 t501, .int .i64 t502, .int .i64 t503, .int .i64 t504, .slice Ao29 t505.length co29] 31 (0, 0)) (by (with_reducible repeat (first | refine blk_drewN ?_ _ | refine blk_drew ?_ | refine blk_alloc ?_ _)); refine blk_far ?_ NB509_517.out _; (with_reducible repeat (first | refine blk_drewN ?_ _ | refine blk_drew ?_ | refine blk_alloc ?_ _)); refine blk_far ?_ NB509_517.out _; (with_reducible repeat (first | refine blk_drewN ?_ _ | refine blk_drew ?_ | refine blk_alloc ?_ _)); refine blk_far ?_ NB509_517.out _; (with_reducible repeat (first | refine blk_drewN ?_ _ | refine blk_drew ?_ | refine blk_alloc ?_ _)); refine blk_far ?_ NB509_517.out _; (with_reducible repeat (first | refine blk_drewN ?_ _ | refine blk_drew ?_ | refine blk_alloc ?_ _)); refine blk_far ?_ NB509_517.out _; (with_reducible repeat (first | refine blk_drewN ?_ _ | refine blk_drew ?_ | refine blk_alloc ?_ _)); exact BK509.out) hb); have n7_ := Aside0.mk (blk_below (g := gb517) (o := .cells #[.int .i64 t510, .int .i64 t511, .int .i64 t512, .int .i64 t513, .slice Ao36 t514.length co36] 31 (0, 0)) (by (with_reducible repeat (first | refine blk_drewN ?_ _ | refine blk_drew ?_ | refine blk_alloc ?_ _)); refine blk_put (cs := #[.int .i64 t510, .int .i64 t511, .int .i64 t512, .int .i64 t513, .slice none 0 0]) ?_ 4 _ rfl; (with_reducible repeat (first | refine blk_drewN ?_ _ | refine blk_drew ?_ | refine blk_alloc ?_ _)); refine blk_put (cs := #[.int .i64 t510, .int .i64 t511, .int .i64 t512, .int .i64 0, .slice none 0 0]) ?_ 3 _ rfl; (with_reducible repeat (first | refine blk_drewN ?_ _ | refine blk_drew ?_ | refine blk_alloc ?_ _)); refine blk_put (cs := #[.int .i64 t510, .int .i64 t511, .int .i64 0, .int .i64 0, .slice none 0 0]) ?_ 2 _ rfl; (with_reducible repeat (first | refine blk_drewN ?_ _ | refine blk_drew ?_ | refine blk_alloc ?_ _)); refine blk_put (cs := #[.int .i64 t510, .int .i64 0, .int .i64 0, .int .i64 0, .slice none 0 0]) ?_ 1 _ rfl; (with_reducible repeat (first | refine blk_drewN ?_ _ | refine blk_drew ?_ | refine blk_alloc ?_ _)); refine blk_put (cs := #[.int .i64 0, .int .i64 0, .int .i64 0, .int .i64 0, .slice none 0 0]) ?_ 0 _ rfl; (with_reducible repeat (first | refine blk_drewN ?_ _ | refine blk_drew ?_ | refine blk_alloc ?_ _)); exact BK517.out) hb); have n8_ := Aside0.mk (below_step (by repeat (first | (with_reducible first | exact HB.out | apply below_alloc | apply pw_below_drewN | apply below_drew1 | refine below_set ?_ GE489.out | refine below_set ?_ GE509.out | refine below_set ?_ GE517.out) | exact HB.out)) hb); clear HO497; clear HO500; clear HO507; clear HO516; clear BK489; clear BK509; clear BK517; clear HB; have HO497 := n0_; have HO500 := n1_; have HO507 := n2_; have HO516 := n3_; have HO520 := n4_; have BK489 := n5_; have BK509 := n6_; have BK517 := n7_; have HB := n8_; clear n0_ n1_ n2_ n3_ n4_ n5_ n6_ n7_ n8_; (try clear hb); (try clear hb2); (try clear hk); (try clear hi); (try clear ho0); have hcz38_0 : w37.cell? ⟨gb517, 0, none⟩ = some (.int .i64 t510) := (blk_cell BK517.out 0).trans rfl; have hcz38_1 : w37.cell? ⟨gb517, 1, none⟩ = some (.int .i64 t511) := (blk_cell BK517.out 1).trans rfl; have hcz38_2 : w37.cell? ⟨gb517, 2, none⟩ = some (.int .i64 t512) := (blk_cell BK517.out 2).trans rfl; have hcz38_3 : w37.cell? ⟨gb517, 3, none⟩ = some (.int .i64 t513) := (blk_cell BK517.out 3).trans rfl; have hcz38_4 : w37.cell? ⟨gb517, 4, none⟩ = some (.slice Ao36 t514.length co36) := (blk_cell BK517.out 4).trans rfl; have hfz38_0 := blk_frozen BK517.out 0; have hfz38_1 := blk_frozen BK517.out 1; have hfz38_2 := blk_frozen BK517.out 2; have hfz38_3 := blk_frozen BK517.out 3; have hfz38_4 := blk_frozen BK517.out 4; obtain ⟨Ao39, co39, eo39⟩ := Kd.R_slice HO520.out; subst eo39) | ((with_reducible refine gate_callee (f := 31) rfl ?_); refine goesL_ (some 40) rfl rfl Try.func31 (by kernel_rfl) rfl #[.agg #[.int .i64 t510, .int .i64 t511, .int .i64 t512, .int .i64 t513, .slice Ao36 t514.length co36], .slice Ao39 t518.length co39] rfl (by (try simp only [List.map_toArray, List.map_cons, List.map_nil]); first | done | rfl | (simp only [List.length_drop, List.length_take]; rfl)) ?_; (with_reducible refine (impl_Recolour.calls k t510 t511 t512 t513 _ _ t514 _ _ t518 t521 t522 t523 t524 t525 t528 _ ?side1 ?side2 ?side3 ?side4 A15.out).mono ?_); (case side1 => repeat (first | exact (Kd.R_reads' HO516.out).2.2 | (with_reducible refine Kd.C_alloc ?_ _) | (with_reducible refine Kd.C_drewN ?_ _) | (with_reducible refine Kd.C_drew ?_))); (case side2 => exact (Kd.R_reads' HO516.out).2.1); (case side3 => repeat (first | exact (Kd.R_reads' HO520.out).2.2 | (with_reducible refine Kd.C_alloc ?_ _) | (with_reducible refine Kd.C_drewN ?_ _) | (with_reducible refine Kd.C_drew ?_))); (case side4 => exact (Kd.R_reads' HO520.out).2.1); rintro e w40 ⟨v526, rfl, ho0, hb⟩; refine ⟨_, rfl, ?_⟩; have n0_ := Aside0.mk (Kd.R_elder' (by (with_reducible repeat (first | apply Kd.R_alloc | apply Kd.R_drewN | apply Kd.R_drew)); exact HO497.out) (Kd.R_base ho0) hb); have n1_ := Aside0.mk (Kd.R_elder' (by (with_reducible repeat (first | apply Kd.R_alloc | apply Kd.R_drewN | apply Kd.R_drew)); exact HO500.out) (Kd.R_base ho0) hb); have n2_ := Aside0.mk (Kd.R_elder' (by (with_reducible repeat (first | apply Kd.R_alloc | apply Kd.R_drewN | apply Kd.R_drew)); exact HO507.out) (Kd.R_base ho0) hb); have n3_ := Aside0.mk (Kd.R_elder' (by (with_reducible repeat (first | apply Kd.R_alloc | apply Kd.R_drewN | apply Kd.R_drew)); exact HO516.out) (Kd.R_base ho0) hb); have n4_ := Aside0.mk (Kd.R_elder' (by (with_reducible repeat (first | apply Kd.R_alloc | apply Kd.R_drewN | apply Kd.R_drew)); exact HO520.out) (Kd.R_base ho0) hb); have n5_ := Aside0.mk (Kd.R_lower (Kd.R_new' (Kd.R_new' (Kd.R_new' (Kd.R_new' (Kd.R_new' ho0 (Kd.R_lt (by (with_reducible repeat (first | apply Kd.R_alloc | apply Kd.R_drewN | apply Kd.R_drew)); exact HO497.out))) (Kd.R_lt (by (with_reducible repeat (first | apply Kd.R_alloc | apply Kd.R_drewN | apply Kd.R_drew)); exact HO500.out))) (Kd.R_lt (by (with_reducible repeat (first | apply Kd.R_alloc | apply Kd.R_drewN | apply Kd.R_drew)); exact HO507.out))) (Kd.R_lt (by (with_reducible repeat (first | apply Kd.R_alloc | apply Kd.R_drewN | apply Kd.R_drew)); exact HO516.out))) (Kd.R_lt (by (with_reducible repeat (first | apply Kd.R_alloc | apply Kd.R_drewN | apply Kd.R_drew)); exact HO520.out))) (below_size (by repeat (first | (with_reducible first | exact HB.out | apply below_alloc | apply pw_below_drewN | apply below_drew1 | refine below_set ?_ GE489.out | refine below_set ?_ GE509.out | refine below_set ?_ GE517.out) | exact HB.out)))); have n6_ := Aside0.mk (blk_below (g := gb489) (o := .cells #[.int .i64 a0_0, .int .i64 a0_1, .int .i64 a0_2, .int .i64 a0_3, .slice A0_4 l0_4.length c0_4] 26 (0, 0)) (by (with_reducible repeat (first | refine blk_drewN ?_ _ | refine blk_drew ?_ | refine blk_alloc ?_ _)); exact BK489.out) hb); have n7_ := Aside0.mk (blk_below (g := gb509) (o := .cells #[.int .i64 t501, .int .i64 t502, .int .i64 t503, .int .i64 t504, .slice Ao29 t505.length co29] 31 (0, 0)) (by (with_reducible repeat (first | refine blk_drewN ?_ _ | refine blk_drew ?_ | refine blk_alloc ?_ _)); exact BK509.out) hb); have n8_ := Aside0.mk (blk_below (g := gb517) (o := .cells #[.int .i64 t510, .int .i64 t511, .int .i64 t512, .int .i64 t513, .slice Ao36 t514.length co36] 31 (0, 0)) (by (with_reducible repeat (first | refine blk_drewN ?_ _ | refine blk_drew ?_ | refine blk_alloc ?_ _)); exact BK517.out) hb); have n9_ := Aside0.mk (below_step (by repeat (first | (with_reducible first | exact HB.out | apply below_alloc | apply pw_below_drewN | apply below_drew1 | refine below_set ?_ GE489.out | refine below_set ?_ GE509.out | refine below_set ?_ GE517.out) | exact HB.out)) hb); clear HO497; clear HO500; clear HO507; clear HO516; clear HO520; clear BK489; clear BK509; clear BK517; clear HB; have HO497 := n0_; have HO500 := n1_; have HO507 := n2_; have HO516 := n3_; have HO520 := n4_; have HO527 := n5_; have BK489 := n6_; have BK509 := n7_; have BK517 := n8_; have HB := n9_; clear n0_ n1_ n2_ n3_ n4_ n5_ n6_ n7_ n8_ n9_; (try clear hb); (try clear hb2); (try clear hk); (try clear hi); (try clear ho0)) | ((with_reducible refine gate_dst (N := 10) rfl ?_); refine box_event ?hg (N := 10) ?hd (cs := #[.int .i64 0, .int .i64 0, .int .i64 0, .int .i64 0, .slice none 0 0]) (t := 31) ?hr ?_; (case hd => rfl); (case hg => rfl); (case hr => first | (go_simp; done) | (go_simp; rfl)); intro gb529 hg w41 hbox hb; have n0_ := Aside0.mk (Kd.R_below (by (with_reducible repeat (first | apply Kd.R_alloc | apply Kd.R_drewN | apply Kd.R_drew)); exact HO497.out) hb); have n1_ := Aside0.mk (Kd.R_below (by (with_reducible repeat (first | apply Kd.R_alloc | apply Kd.R_drewN | apply Kd.R_drew)); exact HO500.out) hb); have n2_ := Aside0.mk (Kd.R_below (by (with_reducible repeat (first | apply Kd.R_alloc | apply Kd.R_drewN | apply Kd.R_drew)); exact HO507.out) hb); have n3_ := Aside0.mk (Kd.R_below (by (with_reducible repeat (first | apply Kd.R_alloc | apply Kd.R_drewN | apply Kd.R_drew)); exact HO516.out) hb); have n4_ := Aside0.mk (Kd.R_below (by (with_reducible repeat (first | apply Kd.R_alloc | apply Kd.R_drewN | apply Kd.R_drew)); exact HO520.out) hb); have n5_ := Aside0.mk (Kd.R_below (by (with_reducible repeat (first | apply Kd.R_alloc | apply Kd.R_drewN | apply Kd.R_drew)); exact HO527.out) hb); have n6_ := Aside0.mk (blk_below (g := gb489) (o := .cells #[.int .i64 a0_0, .int .i64 a0_1, .int .i64 a0_2, .int .i64 a0_3, .slice A0_4 l0_4.length c0_4] 26 (0, 0)) (by (with_reducible repeat (first | refine blk_drewN ?_ _ | refine blk_drew ?_ | refine blk_alloc ?_ _)); exact BK489.out) hb); have n7_ := Aside0.mk (blk_below (g := gb509) (o := .cells #[.int .i64 t501, .int .i64 t502, .int .i64 t503, .int .i64 t504, .slice Ao29 t505.length co29] 31 (0, 0)) (by (with_reducible repeat (first | refine blk_drewN ?_ _ | refine blk_drew ?_ | refine blk_alloc ?_ _)); exact BK509.out) hb); have n8_ := Aside0.mk (blk_below (g := gb517) (o := .cells #[.int .i64 t510, .int .i64 t511, .int .i64 t512, .int .i64 t513, .slice Ao36 t514.length co36] 31 (0, 0)) (by (with_reducible repeat (first | refine blk_drewN ?_ _ | refine blk_drew ?_ | refine blk_alloc ?_ _)); exact BK517.out) hb); have n9_ := Aside0.mk (below_step (by repeat (first | (with_reducible first | exact HB.out | apply below_alloc | apply pw_below_drewN | apply below_drew1 | refine below_set ?_ GE489.out | refine below_set ?_ GE509.out | refine below_set ?_ GE517.out) | exact HB.out)) hb); have n10_ := Aside0.mk (hbox); have n11_ := Aside0.mk ((by rw [hg]; exact (below_size (by repeat (first | (with_reducible first | exact HB.out | apply below_alloc | apply pw_below_drewN | apply below_drew1 | refine below_set ?_ GE489.out | refine below_set ?_ GE509.out | refine below_set ?_ GE517.out) | exact HB.out))) : w.heap.size ≤ gb529)); have n12_ := Aside0.mk ((by rw [hg]; exact (below_size (by repeat (first | (with_reducible first | exact HB.out | apply below_alloc | apply pw_below_drewN | apply below_drew1 | refine below_set ?_ GE489.out | refine below_set ?_ GE509.out | refine below_set ?_ GE517.out) | exact HB.out))) : w.heap.size ≤ gb529)); have n13_ := Aside0.mk ((by rw [hg]; exact Nat.ne_of_lt (blk_lt (g := gb489) (o := .cells #[.int .i64 a0_0, .int .i64 a0_1, .int .i64 a0_2, .int .i64 a0_3, .slice A0_4 l0_4.length c0_4] 26 (0, 0)) (by (with_reducible repeat (first | refine blk_drewN ?_ _ | refine blk_drew ?_ | refine blk_alloc ?_ _)); exact BK489.out)) : gb489 ≠ gb529)); have n14_ := Aside0.mk ((by rw [hg]; exact Nat.ne_of_gt (blk_lt (g := gb489) (o := .cells #[.int .i64 a0_0, .int .i64 a0_1, .int .i64 a0_2, .int .i64 a0_3, .slice A0_4 l0_4.length c0_4] 26 (0, 0)) (by (with_reducible repeat (first | refine blk_drewN ?_ _ | refine blk_drew ?_ | refine blk_alloc ?_ _)); exact BK489.out)) : gb529 ≠ gb489)); have n15_ := Aside0.mk ((by rw [hg]; exact Nat.ne_of_lt (blk_lt (g := gb509) (o := .cells #[.int .i64 t501, .int .i64 t502, .int .i64 t503, .int .i64 t504, .slice Ao29 t505.length co29] 31 (0, 0)) (by (with_reducible repeat (first | refine blk_drewN ?_ _ | refine blk_drew ?_ | refine blk_alloc ?_ _)); exact BK509.out)) : gb509 ≠ gb529)); have n16_ := Aside0.mk ((by rw [hg]; exact Nat.ne_of_gt (blk_lt (g := gb509) (o := .cells #[.int .i64 t501, .int .i64 t502, .int .i64 t503, .int .i64 t504, .slice Ao29 t505.length co29] 31 (0, 0)) (by (with_reducible repeat (first | refine blk_drewN ?_ _ | refine blk_drew ?_ | refine blk_alloc ?_ _)); exact BK509.out)) : gb529 ≠ gb509)); have n17_ := Aside0.mk ((by rw [hg]; exact Nat.ne_of_lt (blk_lt (g := gb517) (o := .cells #[.int .i64 t510, .int .i64 t511, .int .i64 t512, .int .i64 t513, .slice Ao36 t514.length co36] 31 (0, 0)) (by (with_reducible repeat (first | refine blk_drewN ?_ _ | refine blk_drew ?_ | refine blk_alloc ?_ _)); exact BK517.out)) : gb517 ≠ gb529)); have n18_ := Aside0.mk ((by rw [hg]; exact Nat.ne_of_gt (blk_lt (g := gb517) (o := .cells #[.int .i64 t510, .int .i64 t511, .int .i64 t512, .int .i64 t513, .slice Ao36 t514.length co36] 31 (0, 0)) (by (with_reducible repeat (first | refine blk_drewN ?_ _ | refine blk_drew ?_ | refine blk_alloc ?_ _)); exact BK517.out)) : gb529 ≠ gb517)); clear HO497; clear HO500; clear HO507; clear HO516; clear HO520; clear HO527; clear BK489; clear BK509; clear BK517; clear HB; have HO497 := n0_; have HO500 := n1_; have HO507 := n2_; have HO516 := n3_; have HO520 := n4_; have HO527 := n5_; have BK489 := n6_; have BK509 := n7_; have BK517 := n8_; have HB := n9_; have BK529 := n10_; have GW529 := n11_; have GE529 := n12_; have NB489_529 := n13_; have NB529_489 := n14_; have NB509_529 := n15_; have NB529_509 := n16_; have NB517_529 := n17_; have NB529_517 := n18_; clear n0_ n1_ n2_ n3_ n4_ n5_ n6_ n7_ n8_ n9_ n10_ n11_ n12_ n13_ n14_ n15_ n16_ n17_ n18_; clear hb hbox hg; have hnb42 := NB529_489.out; have hnc42 := NB489_529.out; have hnb43 := NB529_509.out; have hnc43 := NB509_529.out; have hnb44 := NB529_517.out; have hnc44 := NB517_529.out; have hcz45_0 : w41.cell? ⟨gb529, 0, none⟩ = some (.int .i64 0) := (blk_cell BK529.out 0).trans rfl; have hcz45_1 : w41.cell? ⟨gb529, 1, none⟩ = some (.int .i64 0) := (blk_cell BK529.out 1).trans rfl; have hcz45_2 : w41.cell? ⟨gb529, 2, none⟩ = some (.int .i64 0) := (blk_cell BK529.out 2).trans rfl; have hcz45_3 : w41.cell? ⟨gb529, 3, none⟩ = some (.int .i64 0) := (blk_cell BK529.out 3).trans rfl; have hcz45_4 : w41.cell? ⟨gb529, 4, none⟩ = some (.slice none 0 0) := (blk_cell BK529.out 4).trans rfl; have hfz45_0 := blk_frozen BK529.out 0; have hfz45_1 := blk_frozen BK529.out 1; have hfz45_2 := blk_frozen BK529.out 2; have hfz45_3 := blk_frozen BK529.out 3; have hfz45_4 := blk_frozen BK529.out 4; obtain ⟨Ao46, co46, eo46⟩ := Kd.R_slice HO527.out; subst eo46))
      (try simp only [Act.put, List.setIfInBounds_toArray, List.set_cons_zero, List.set_cons_succ])
      go_cut [51] (fun v51 wc => ∃ (kq : Nat) (x51_15 : Bool), v51 = .bool x51_15 ∧ Aside0 (laws_FnExactRecolour.j0 kq l1 t508 t518 t528 x51_15 a0_0 a0_1 a0_2 a0_3 l0_4 t501 t502 t503 t504 t505 t510 t511 t512 t513 t514 t521 t522 t523 t524 t525 = some true) ∧ Aside0 (kq ≤ k) ∧ Aside0 (Kd.R (Kd.int .i64) 2 wc w.heap.size (fun k_ => some k_ ≠ ((.slice Ao29 t505.length co29) : Value).ownBlock ∧ some k_ ≠ ((.slice Ao36 t514.length co36) : Value).ownBlock ∧ some k_ ≠ ((.slice Ao46 t525.length co46) : Value).ownBlock) (.slice Ao39 t518.length co39) t518) ∧ Aside0 (Kd.R (Kd.int .i64) 2 wc w.heap.size (fun k_ => some k_ ≠ ((.slice Ao39 t518.length co39) : Value).ownBlock ∧ some k_ ≠ ((.slice Ao36 t514.length co36) : Value).ownBlock ∧ some k_ ≠ ((.slice Ao46 t525.length co46) : Value).ownBlock) (.slice Ao29 t505.length co29) t505) ∧ Aside0 (Kd.R (Kd.int .i64) 2 wc w.heap.size (fun k_ => some k_ ≠ ((.slice Ao39 t518.length co39) : Value).ownBlock ∧ some k_ ≠ ((.slice Ao29 t505.length co29) : Value).ownBlock ∧ some k_ ≠ ((.slice Ao46 t525.length co46) : Value).ownBlock) (.slice Ao36 t514.length co36) t514) ∧ Aside0 (Kd.R (Kd.int .i64) 2 wc w.heap.size (fun k_ => some k_ ≠ ((.slice Ao39 t518.length co39) : Value).ownBlock ∧ some k_ ≠ ((.slice Ao29 t505.length co29) : Value).ownBlock ∧ some k_ ≠ ((.slice Ao36 t514.length co36) : Value).ownBlock) (.slice Ao46 t525.length co46) t525) ∧ Aside0 (wc.heap[gb489]? = some (.cells #[.int .i64 a0_0, .int .i64 a0_1, .int .i64 a0_2, .int .i64 a0_3, (.slice A0_4 l0_4.length c0_4)] 26 (0, 0))) ∧ Aside0 (wc.heap[gb509]? = some (.cells #[.int .i64 t501, .int .i64 t502, .int .i64 t503, .int .i64 t504, (.slice Ao29 t505.length co29)] 31 (0, 0))) ∧ Aside0 (wc.heap[gb517]? = some (.cells #[.int .i64 t510, .int .i64 t511, .int .i64 t512, .int .i64 t513, (.slice Ao36 t514.length co36)] 31 (0, 0))) ∧ Aside0 (wc.heap[gb529]? = some (.cells #[.int .i64 t521, .int .i64 t522, .int .i64 t523, .int .i64 t524, (.slice Ao46 t525.length co46)] 31 (0, 0))) ∧ Aside0 (Below w.heap.size w wc))
      case first =>
        have H := HC16.out
        clear HC16
        replace H := Option.bind_eq_some_iff.mp H
        obtain ⟨t530, A470, H⟩ := H
        replace H : (if t530 = true then (laws_FnExactRecolour.j0 k l1 t508 t518 t528 (t528 != t508) a0_0 a0_1 a0_2 a0_3 l0_4 t501 t502 t503 t504 t505 t510 t511 t512 t513 t514 t521 t522 t523 t524 t525) else (laws_FnExactRecolour.j0 k l1 t508 t518 t528 true a0_0 a0_1 a0_2 a0_3 l0_4 t501 t502 t503 t504 t505 t510 t511 t512 t513 t514 t521 t522 t523 t524 t525)) = some true := H
        have A47 := Aside0.mk A470
        clear A470
        by_cases c48 : t530 = true
        · subst c48
          have H1 : (laws_FnExactRecolour.j0 k l1 t508 t518 t528 (t528 != t508) a0_0 a0_1 a0_2 a0_3 l0_4 t501 t502 t503 t504 t505 t510 t511 t512 t513 t514 t521 t522 t523 t524 t525) = some true := by rw [if_pos rfl] at H; first | done | exact H
          clear H
          have H := H1
          clear H1
          have H' := Aside0.mk H
          clear H
          have hnb49 := NB529_489.out
          have hnc49 := NB489_529.out
          have hnb50 := NB529_509.out
          have hnc50 := NB509_529.out
          have hnb51 := NB529_517.out
          have hnc51 := NB517_529.out
          have hcz52_0 : w41.cell? ⟨gb529, 0, none⟩ = some (.int .i64 0) := (blk_cell BK529.out 0).trans rfl
          have hcz52_1 : w41.cell? ⟨gb529, 1, none⟩ = some (.int .i64 0) := (blk_cell BK529.out 1).trans rfl
          have hcz52_2 : w41.cell? ⟨gb529, 2, none⟩ = some (.int .i64 0) := (blk_cell BK529.out 2).trans rfl
          have hcz52_3 : w41.cell? ⟨gb529, 3, none⟩ = some (.int .i64 0) := (blk_cell BK529.out 3).trans rfl
          have hcz52_4 : w41.cell? ⟨gb529, 4, none⟩ = some (.slice none 0 0) := (blk_cell BK529.out 4).trans rfl
          have hfz52_0 := blk_frozen BK529.out 0
          have hfz52_1 := blk_frozen BK529.out 1
          have hfz52_2 := blk_frozen BK529.out 2
          have hfz52_3 := blk_frozen BK529.out 3
          have hfz52_4 := blk_frozen BK529.out 4
          have hnb53 := NB509_489.out
          have hnc53 := NB489_509.out
          have hnb54 := NB509_517.out
          have hnc54 := NB517_509.out
          have hcz55_0 : w41.cell? ⟨gb509, 0, none⟩ = some (.int .i64 t501) := (blk_cell BK509.out 0).trans rfl
          have hcz55_1 : w41.cell? ⟨gb509, 1, none⟩ = some (.int .i64 t502) := (blk_cell BK509.out 1).trans rfl
          have hcz55_2 : w41.cell? ⟨gb509, 2, none⟩ = some (.int .i64 t503) := (blk_cell BK509.out 2).trans rfl
          have hcz55_3 : w41.cell? ⟨gb509, 3, none⟩ = some (.int .i64 t504) := (blk_cell BK509.out 3).trans rfl
          have hcz55_4 : w41.cell? ⟨gb509, 4, none⟩ = some (.slice Ao29 t505.length co29) := (blk_cell BK509.out 4).trans rfl
          have hfz55_0 := blk_frozen BK509.out 0
          have hfz55_1 := blk_frozen BK509.out 1
          have hfz55_2 := blk_frozen BK509.out 2
          have hfz55_3 := blk_frozen BK509.out 3
          have hfz55_4 := blk_frozen BK509.out 4
          go_wp2_with (first | ((with_reducible refine gate_callee (f := 14) rfl ?_); refine goesL_ (some 45) rfl rfl Try.func14 (by kernel_rfl) rfl #[.agg #[.int .i64 t521, .int .i64 t522, .int .i64 t523, .int .i64 t524, .slice Ao46 t525.length co46], .agg #[.int .i64 t501, .int .i64 t502, .int .i64 t503, .int .i64 t504, .slice Ao29 t505.length co29]] rfl (by (try simp only [List.map_toArray, List.map_cons, List.map_nil]); first | done | rfl | (simp only [List.length_drop, List.length_take]; rfl)) ?_; (with_reducible refine (laws_eqPattern.calls k t521 t522 t523 t524 _ _ t525 t501 t502 t503 t504 _ _ t505 true _ ?side1 ?side2 ?side3 ?side4 A47.out).mono ?_); (case side1 => refine (Kd.R_reads' (e := 2) (base := w.heap.size) (ok := fun k_ => (((((True ∧ some k_ ≠ (.slice Ao23 t495.length co23 : Value).ownBlock) ∧ some k_ ≠ (.slice Ao24 t498.length co24 : Value).ownBlock) ∧ some k_ ≠ (.slice Ao29 t505.length co29 : Value).ownBlock) ∧ some k_ ≠ (.slice Ao36 t514.length co36 : Value).ownBlock) ∧ some k_ ≠ (.slice Ao39 t518.length co39 : Value).ownBlock)) (n := t525.length) (c := co46) ?_).2.2; exact (by (with_reducible repeat (first | apply Kd.R_alloc | apply Kd.R_drewN | apply Kd.R_drew)); exact (Kd.R_mono (Kd.R_far (p := ⟨gb529, 4, none⟩) (Kd.R_far (p := ⟨gb529, 3, none⟩) (Kd.R_far (p := ⟨gb529, 2, none⟩) (Kd.R_far (p := ⟨gb529, 1, none⟩) (Kd.R_far (p := ⟨gb529, 0, none⟩) (Kd.R_types HO527.out BK529.out (by decide)) (fun _ hk => hk.2) (.int .i64 t521)) (fun _ hk => hk.2) (.int .i64 t522)) (fun _ hk => hk.2) (.int .i64 t523)) (fun _ hk => hk.2) (.int .i64 t524)) (fun _ hk => hk.2) (.slice Ao46 t525.length co46)) (fun _ h_ => h_.1)))); (case side2 => exact (Kd.R_reads' HO527.out).2.1); (case side3 => refine (Kd.R_reads' (e := 2) (base := w.heap.size) (ok := fun k_ => (((((True ∧ some k_ ≠ (.slice Ao23 t495.length co23 : Value).ownBlock) ∧ some k_ ≠ (.slice Ao24 t498.length co24 : Value).ownBlock) ∧ some k_ ≠ (.slice Ao36 t514.length co36 : Value).ownBlock) ∧ some k_ ≠ (.slice Ao39 t518.length co39 : Value).ownBlock) ∧ some k_ ≠ (.slice Ao46 t525.length co46 : Value).ownBlock)) (n := t505.length) (c := co29) ?_).2.2; exact (by (with_reducible repeat (first | apply Kd.R_alloc | apply Kd.R_drewN | apply Kd.R_drew)); exact (Kd.R_mono (Kd.R_far (p := ⟨gb529, 4, none⟩) (Kd.R_far (p := ⟨gb529, 3, none⟩) (Kd.R_far (p := ⟨gb529, 2, none⟩) (Kd.R_far (p := ⟨gb529, 1, none⟩) (Kd.R_far (p := ⟨gb529, 0, none⟩) (Kd.R_types HO507.out BK529.out (by decide)) (fun _ hk => hk.2) (.int .i64 t521)) (fun _ hk => hk.2) (.int .i64 t522)) (fun _ hk => hk.2) (.int .i64 t523)) (fun _ hk => hk.2) (.int .i64 t524)) (fun _ hk => hk.2) (.slice Ao46 t525.length co46)) (fun _ h_ => h_.1)))); (case side4 => exact (Kd.R_reads' HO507.out).2.1); rintro e w56 ⟨rfl, hb⟩; refine ⟨_, rfl, ?_⟩; have n0_ := Aside0.mk (Kd.R_below (by (with_reducible repeat (first | apply Kd.R_alloc | apply Kd.R_drewN | apply Kd.R_drew)); exact (Kd.R_mono (Kd.R_far (p := ⟨gb529, 4, none⟩) (Kd.R_far (p := ⟨gb529, 3, none⟩) (Kd.R_far (p := ⟨gb529, 2, none⟩) (Kd.R_far (p := ⟨gb529, 1, none⟩) (Kd.R_far (p := ⟨gb529, 0, none⟩) (Kd.R_types HO497.out BK529.out (by decide)) (fun _ hk => hk.2) (.int .i64 t521)) (fun _ hk => hk.2) (.int .i64 t522)) (fun _ hk => hk.2) (.int .i64 t523)) (fun _ hk => hk.2) (.int .i64 t524)) (fun _ hk => hk.2) (.slice Ao46 t525.length co46)) (fun _ h_ => h_.1))) hb); have n1_ := Aside0.mk (Kd.R_below (by (with_reducible repeat (first | apply Kd.R_alloc | apply Kd.R_drewN | apply Kd.R_drew)); exact (Kd.R_mono (Kd.R_far (p := ⟨gb529, 4, none⟩) (Kd.R_far (p := ⟨gb529, 3, none⟩) (Kd.R_far (p := ⟨gb529, 2, none⟩) (Kd.R_far (p := ⟨gb529, 1, none⟩) (Kd.R_far (p := ⟨gb529, 0, none⟩) (Kd.R_types HO500.out BK529.out (by decide)) (fun _ hk => hk.2) (.int .i64 t521)) (fun _ hk => hk.2) (.int .i64 t522)) (fun _ hk => hk.2) (.int .i64 t523)) (fun _ hk => hk.2) (.int .i64 t524)) (fun _ hk => hk.2) (.slice Ao46 t525.length co46)) (fun _ h_ => h_.1))) hb); have n2_ := Aside0.mk (Kd.R_below (by (with_reducible repeat (first | apply Kd.R_alloc | apply Kd.R_drewN | apply Kd.R_drew)); exact (Kd.R_mono (Kd.R_far (p := ⟨gb529, 4, none⟩) (Kd.R_far (p := ⟨gb529, 3, none⟩) (Kd.R_far (p := ⟨gb529, 2, none⟩) (Kd.R_far (p := ⟨gb529, 1, none⟩) (Kd.R_far (p := ⟨gb529, 0, none⟩) (Kd.R_types HO507.out BK529.out (by decide)) (fun _ hk => hk.2) (.int .i64 t521)) (fun _ hk => hk.2) (.int .i64 t522)) (fun _ hk => hk.2) (.int .i64 t523)) (fun _ hk => hk.2) (.int .i64 t524)) (fun _ hk => hk.2) (.slice Ao46 t525.length co46)) (fun _ h_ => h_.1))) hb); have n3_ := Aside0.mk (Kd.R_below (by (with_reducible repeat (first | apply Kd.R_alloc | apply Kd.R_drewN | apply Kd.R_drew)); exact (Kd.R_mono (Kd.R_far (p := ⟨gb529, 4, none⟩) (Kd.R_far (p := ⟨gb529, 3, none⟩) (Kd.R_far (p := ⟨gb529, 2, none⟩) (Kd.R_far (p := ⟨gb529, 1, none⟩) (Kd.R_far (p := ⟨gb529, 0, none⟩) (Kd.R_types HO516.out BK529.out (by decide)) (fun _ hk => hk.2) (.int .i64 t521)) (fun _ hk => hk.2) (.int .i64 t522)) (fun _ hk => hk.2) (.int .i64 t523)) (fun _ hk => hk.2) (.int .i64 t524)) (fun _ hk => hk.2) (.slice Ao46 t525.length co46)) (fun _ h_ => h_.1))) hb); have n4_ := Aside0.mk (Kd.R_below (by (with_reducible repeat (first | apply Kd.R_alloc | apply Kd.R_drewN | apply Kd.R_drew)); exact (Kd.R_mono (Kd.R_far (p := ⟨gb529, 4, none⟩) (Kd.R_far (p := ⟨gb529, 3, none⟩) (Kd.R_far (p := ⟨gb529, 2, none⟩) (Kd.R_far (p := ⟨gb529, 1, none⟩) (Kd.R_far (p := ⟨gb529, 0, none⟩) (Kd.R_types HO520.out BK529.out (by decide)) (fun _ hk => hk.2) (.int .i64 t521)) (fun _ hk => hk.2) (.int .i64 t522)) (fun _ hk => hk.2) (.int .i64 t523)) (fun _ hk => hk.2) (.int .i64 t524)) (fun _ hk => hk.2) (.slice Ao46 t525.length co46)) (fun _ h_ => h_.1))) hb); have n5_ := Aside0.mk (Kd.R_below (by (with_reducible repeat (first | apply Kd.R_alloc | apply Kd.R_drewN | apply Kd.R_drew)); exact (Kd.R_mono (Kd.R_far (p := ⟨gb529, 4, none⟩) (Kd.R_far (p := ⟨gb529, 3, none⟩) (Kd.R_far (p := ⟨gb529, 2, none⟩) (Kd.R_far (p := ⟨gb529, 1, none⟩) (Kd.R_far (p := ⟨gb529, 0, none⟩) (Kd.R_types HO527.out BK529.out (by decide)) (fun _ hk => hk.2) (.int .i64 t521)) (fun _ hk => hk.2) (.int .i64 t522)) (fun _ hk => hk.2) (.int .i64 t523)) (fun _ hk => hk.2) (.int .i64 t524)) (fun _ hk => hk.2) (.slice Ao46 t525.length co46)) (fun _ h_ => h_.1))) hb); have n6_ := Aside0.mk (blk_below (g := gb489) (o := .cells #[.int .i64 a0_0, .int .i64 a0_1, .int .i64 a0_2, .int .i64 a0_3, .slice A0_4 l0_4.length c0_4] 26 (0, 0)) (by (with_reducible repeat (first | refine blk_drewN ?_ _ | refine blk_drew ?_ | refine blk_alloc ?_ _)); refine blk_far ?_ NB489_529.out _; (with_reducible repeat (first | refine blk_drewN ?_ _ | refine blk_drew ?_ | refine blk_alloc ?_ _)); refine blk_far ?_ NB489_529.out _; (with_reducible repeat (first | refine blk_drewN ?_ _ | refine blk_drew ?_ | refine blk_alloc ?_ _)); refine blk_far ?_ NB489_529.out _; (with_reducible repeat (first | refine blk_drewN ?_ _ | refine blk_drew ?_ | refine blk_alloc ?_ _)); refine blk_far ?_ NB489_529.out _; (with_reducible repeat (first | refine blk_drewN ?_ _ | refine blk_drew ?_ | refine blk_alloc ?_ _)); refine blk_far ?_ NB489_529.out _; (with_reducible repeat (first | refine blk_drewN ?_ _ | refine blk_drew ?_ | refine blk_alloc ?_ _)); exact BK489.out) hb); have n7_ := Aside0.mk (blk_below (g := gb509) (o := .cells #[.int .i64 t501, .int .i64 t502, .int .i64 t503, .int .i64 t504, .slice Ao29 t505.length co29] 31 (0, 0)) (by (with_reducible repeat (first | refine blk_drewN ?_ _ | refine blk_drew ?_ | refine blk_alloc ?_ _)); refine blk_far ?_ NB509_529.out _; (with_reducible repeat (first | refine blk_drewN ?_ _ | refine blk_drew ?_ | refine blk_alloc ?_ _)); refine blk_far ?_ NB509_529.out _; (with_reducible repeat (first | refine blk_drewN ?_ _ | refine blk_drew ?_ | refine blk_alloc ?_ _)); refine blk_far ?_ NB509_529.out _; (with_reducible repeat (first | refine blk_drewN ?_ _ | refine blk_drew ?_ | refine blk_alloc ?_ _)); refine blk_far ?_ NB509_529.out _; (with_reducible repeat (first | refine blk_drewN ?_ _ | refine blk_drew ?_ | refine blk_alloc ?_ _)); refine blk_far ?_ NB509_529.out _; (with_reducible repeat (first | refine blk_drewN ?_ _ | refine blk_drew ?_ | refine blk_alloc ?_ _)); exact BK509.out) hb); have n8_ := Aside0.mk (blk_below (g := gb517) (o := .cells #[.int .i64 t510, .int .i64 t511, .int .i64 t512, .int .i64 t513, .slice Ao36 t514.length co36] 31 (0, 0)) (by (with_reducible repeat (first | refine blk_drewN ?_ _ | refine blk_drew ?_ | refine blk_alloc ?_ _)); refine blk_far ?_ NB517_529.out _; (with_reducible repeat (first | refine blk_drewN ?_ _ | refine blk_drew ?_ | refine blk_alloc ?_ _)); refine blk_far ?_ NB517_529.out _; (with_reducible repeat (first | refine blk_drewN ?_ _ | refine blk_drew ?_ | refine blk_alloc ?_ _)); refine blk_far ?_ NB517_529.out _; (with_reducible repeat (first | refine blk_drewN ?_ _ | refine blk_drew ?_ | refine blk_alloc ?_ _)); refine blk_far ?_ NB517_529.out _; (with_reducible repeat (first | refine blk_drewN ?_ _ | refine blk_drew ?_ | refine blk_alloc ?_ _)); refine blk_far ?_ NB517_529.out _; (with_reducible repeat (first | refine blk_drewN ?_ _ | refine blk_drew ?_ | refine blk_alloc ?_ _)); exact BK517.out) hb); have n9_ := Aside0.mk (blk_below (g := gb529) (o := .cells #[.int .i64 t521, .int .i64 t522, .int .i64 t523, .int .i64 t524, .slice Ao46 t525.length co46] 31 (0, 0)) (by (with_reducible repeat (first | refine blk_drewN ?_ _ | refine blk_drew ?_ | refine blk_alloc ?_ _)); refine blk_put (cs := #[.int .i64 t521, .int .i64 t522, .int .i64 t523, .int .i64 t524, .slice none 0 0]) ?_ 4 _ rfl; (with_reducible repeat (first | refine blk_drewN ?_ _ | refine blk_drew ?_ | refine blk_alloc ?_ _)); refine blk_put (cs := #[.int .i64 t521, .int .i64 t522, .int .i64 t523, .int .i64 0, .slice none 0 0]) ?_ 3 _ rfl; (with_reducible repeat (first | refine blk_drewN ?_ _ | refine blk_drew ?_ | refine blk_alloc ?_ _)); refine blk_put (cs := #[.int .i64 t521, .int .i64 t522, .int .i64 0, .int .i64 0, .slice none 0 0]) ?_ 2 _ rfl; (with_reducible repeat (first | refine blk_drewN ?_ _ | refine blk_drew ?_ | refine blk_alloc ?_ _)); refine blk_put (cs := #[.int .i64 t521, .int .i64 0, .int .i64 0, .int .i64 0, .slice none 0 0]) ?_ 1 _ rfl; (with_reducible repeat (first | refine blk_drewN ?_ _ | refine blk_drew ?_ | refine blk_alloc ?_ _)); refine blk_put (cs := #[.int .i64 0, .int .i64 0, .int .i64 0, .int .i64 0, .slice none 0 0]) ?_ 0 _ rfl; (with_reducible repeat (first | refine blk_drewN ?_ _ | refine blk_drew ?_ | refine blk_alloc ?_ _)); exact BK529.out) hb); have n10_ := Aside0.mk (below_step (by repeat (first | (with_reducible first | exact HB.out | apply below_alloc | apply pw_below_drewN | apply below_drew1 | refine below_set ?_ GE489.out | refine below_set ?_ GE509.out | refine below_set ?_ GE517.out | refine below_set ?_ GE529.out) | exact HB.out)) hb); clear HO497; clear HO500; clear HO507; clear HO516; clear HO520; clear HO527; clear BK489; clear BK509; clear BK517; clear BK529; clear HB; have HO497 := n0_; have HO500 := n1_; have HO507 := n2_; have HO516 := n3_; have HO520 := n4_; have HO527 := n5_; have BK489 := n6_; have BK509 := n7_; have BK517 := n8_; have BK529 := n9_; have HB := n10_; clear n0_ n1_ n2_ n3_ n4_ n5_ n6_ n7_ n8_ n9_ n10_; (try clear hb); (try clear hb2); (try clear hk); (try clear hi)))
          go_meet
          case rel => exact ⟨_, ((t528 != t508)), (by first | rfl | (simp; done) | (simp [*]; done)), H', ⟨by first | omega | exact Nat.le_refl _⟩, ⟨by (with_reducible repeat (first | apply Kd.R_alloc | apply Kd.R_drewN | apply Kd.R_drew)); exact Kd.R_mono HO520.out (fun _ hk => ⟨hk.1.1.2, ⟨hk.1.2, hk.2⟩⟩)⟩, ⟨by (with_reducible repeat (first | apply Kd.R_alloc | apply Kd.R_drewN | apply Kd.R_drew)); exact Kd.R_mono HO507.out (fun _ hk => ⟨hk.1.2, ⟨hk.1.1.2, hk.2⟩⟩)⟩, ⟨by (with_reducible repeat (first | apply Kd.R_alloc | apply Kd.R_drewN | apply Kd.R_drew)); exact Kd.R_mono HO516.out (fun _ hk => ⟨hk.1.2, ⟨hk.1.1.2, hk.2⟩⟩)⟩, ⟨by (with_reducible repeat (first | apply Kd.R_alloc | apply Kd.R_drewN | apply Kd.R_drew)); exact Kd.R_mono HO527.out (fun _ hk => ⟨hk.2, ⟨hk.1.1.2, hk.1.2⟩⟩)⟩, ⟨by (with_reducible repeat (first | refine blk_drewN ?_ _ | refine blk_drew ?_ | refine blk_alloc ?_ _)); exact BK489.out⟩, ⟨by (with_reducible repeat (first | refine blk_drewN ?_ _ | refine blk_drew ?_ | refine blk_alloc ?_ _)); exact BK509.out⟩, ⟨by (with_reducible repeat (first | refine blk_drewN ?_ _ | refine blk_drew ?_ | refine blk_alloc ?_ _)); exact BK517.out⟩, ⟨by (with_reducible repeat (first | refine blk_drewN ?_ _ | refine blk_drew ?_ | refine blk_alloc ?_ _)); exact BK529.out⟩, ⟨by repeat (first | (with_reducible first | exact HB.out | apply below_alloc | apply pw_below_drewN | apply below_drew1 | refine below_set ?_ GE489.out | refine below_set ?_ GE509.out | refine below_set ?_ GE517.out | refine below_set ?_ GE529.out) | exact HB.out)⟩⟩
        · replace c48 := Bool.eq_false_iff.mpr c48
          subst c48
          have H1 : (laws_FnExactRecolour.j0 k l1 t508 t518 t528 true a0_0 a0_1 a0_2 a0_3 l0_4 t501 t502 t503 t504 t505 t510 t511 t512 t513 t514 t521 t522 t523 t524 t525) = some true := by rw [if_neg (show ¬ (false = true) by decide)] at H; first | done | exact H
          clear H
          have H := H1
          clear H1
          have H' := Aside0.mk H
          clear H
          have hnb57 := NB529_489.out
          have hnc57 := NB489_529.out
          have hnb58 := NB529_509.out
          have hnc58 := NB509_529.out
          have hnb59 := NB529_517.out
          have hnc59 := NB517_529.out
          have hcz60_0 : w41.cell? ⟨gb529, 0, none⟩ = some (.int .i64 0) := (blk_cell BK529.out 0).trans rfl
          have hcz60_1 : w41.cell? ⟨gb529, 1, none⟩ = some (.int .i64 0) := (blk_cell BK529.out 1).trans rfl
          have hcz60_2 : w41.cell? ⟨gb529, 2, none⟩ = some (.int .i64 0) := (blk_cell BK529.out 2).trans rfl
          have hcz60_3 : w41.cell? ⟨gb529, 3, none⟩ = some (.int .i64 0) := (blk_cell BK529.out 3).trans rfl
          have hcz60_4 : w41.cell? ⟨gb529, 4, none⟩ = some (.slice none 0 0) := (blk_cell BK529.out 4).trans rfl
          have hfz60_0 := blk_frozen BK529.out 0
          have hfz60_1 := blk_frozen BK529.out 1
          have hfz60_2 := blk_frozen BK529.out 2
          have hfz60_3 := blk_frozen BK529.out 3
          have hfz60_4 := blk_frozen BK529.out 4
          have hnb61 := NB509_489.out
          have hnc61 := NB489_509.out
          have hnb62 := NB509_517.out
          have hnc62 := NB517_509.out
          have hcz63_0 : w41.cell? ⟨gb509, 0, none⟩ = some (.int .i64 t501) := (blk_cell BK509.out 0).trans rfl
          have hcz63_1 : w41.cell? ⟨gb509, 1, none⟩ = some (.int .i64 t502) := (blk_cell BK509.out 1).trans rfl
          have hcz63_2 : w41.cell? ⟨gb509, 2, none⟩ = some (.int .i64 t503) := (blk_cell BK509.out 2).trans rfl
          have hcz63_3 : w41.cell? ⟨gb509, 3, none⟩ = some (.int .i64 t504) := (blk_cell BK509.out 3).trans rfl
          have hcz63_4 : w41.cell? ⟨gb509, 4, none⟩ = some (.slice Ao29 t505.length co29) := (blk_cell BK509.out 4).trans rfl
          have hfz63_0 := blk_frozen BK509.out 0
          have hfz63_1 := blk_frozen BK509.out 1
          have hfz63_2 := blk_frozen BK509.out 2
          have hfz63_3 := blk_frozen BK509.out 3
          have hfz63_4 := blk_frozen BK509.out 4
          go_wp2_with (first | ((with_reducible refine gate_callee (f := 14) rfl ?_); refine goesL_ (some 45) rfl rfl Try.func14 (by kernel_rfl) rfl #[.agg #[.int .i64 t521, .int .i64 t522, .int .i64 t523, .int .i64 t524, .slice Ao46 t525.length co46], .agg #[.int .i64 t501, .int .i64 t502, .int .i64 t503, .int .i64 t504, .slice Ao29 t505.length co29]] rfl (by (try simp only [List.map_toArray, List.map_cons, List.map_nil]); first | done | rfl | (simp only [List.length_drop, List.length_take]; rfl)) ?_; (with_reducible refine (laws_eqPattern.calls k t521 t522 t523 t524 _ _ t525 t501 t502 t503 t504 _ _ t505 false _ ?side1 ?side2 ?side3 ?side4 A47.out).mono ?_); (case side1 => refine (Kd.R_reads' (e := 2) (base := w.heap.size) (ok := fun k_ => (((((True ∧ some k_ ≠ (.slice Ao23 t495.length co23 : Value).ownBlock) ∧ some k_ ≠ (.slice Ao24 t498.length co24 : Value).ownBlock) ∧ some k_ ≠ (.slice Ao29 t505.length co29 : Value).ownBlock) ∧ some k_ ≠ (.slice Ao36 t514.length co36 : Value).ownBlock) ∧ some k_ ≠ (.slice Ao39 t518.length co39 : Value).ownBlock)) (n := t525.length) (c := co46) ?_).2.2; exact (by (with_reducible repeat (first | apply Kd.R_alloc | apply Kd.R_drewN | apply Kd.R_drew)); exact (Kd.R_mono (Kd.R_far (p := ⟨gb529, 4, none⟩) (Kd.R_far (p := ⟨gb529, 3, none⟩) (Kd.R_far (p := ⟨gb529, 2, none⟩) (Kd.R_far (p := ⟨gb529, 1, none⟩) (Kd.R_far (p := ⟨gb529, 0, none⟩) (Kd.R_types HO527.out BK529.out (by decide)) (fun _ hk => hk.2) (.int .i64 t521)) (fun _ hk => hk.2) (.int .i64 t522)) (fun _ hk => hk.2) (.int .i64 t523)) (fun _ hk => hk.2) (.int .i64 t524)) (fun _ hk => hk.2) (.slice Ao46 t525.length co46)) (fun _ h_ => h_.1)))); (case side2 => exact (Kd.R_reads' HO527.out).2.1); (case side3 => refine (Kd.R_reads' (e := 2) (base := w.heap.size) (ok := fun k_ => (((((True ∧ some k_ ≠ (.slice Ao23 t495.length co23 : Value).ownBlock) ∧ some k_ ≠ (.slice Ao24 t498.length co24 : Value).ownBlock) ∧ some k_ ≠ (.slice Ao36 t514.length co36 : Value).ownBlock) ∧ some k_ ≠ (.slice Ao39 t518.length co39 : Value).ownBlock) ∧ some k_ ≠ (.slice Ao46 t525.length co46 : Value).ownBlock)) (n := t505.length) (c := co29) ?_).2.2; exact (by (with_reducible repeat (first | apply Kd.R_alloc | apply Kd.R_drewN | apply Kd.R_drew)); exact (Kd.R_mono (Kd.R_far (p := ⟨gb529, 4, none⟩) (Kd.R_far (p := ⟨gb529, 3, none⟩) (Kd.R_far (p := ⟨gb529, 2, none⟩) (Kd.R_far (p := ⟨gb529, 1, none⟩) (Kd.R_far (p := ⟨gb529, 0, none⟩) (Kd.R_types HO507.out BK529.out (by decide)) (fun _ hk => hk.2) (.int .i64 t521)) (fun _ hk => hk.2) (.int .i64 t522)) (fun _ hk => hk.2) (.int .i64 t523)) (fun _ hk => hk.2) (.int .i64 t524)) (fun _ hk => hk.2) (.slice Ao46 t525.length co46)) (fun _ h_ => h_.1)))); (case side4 => exact (Kd.R_reads' HO507.out).2.1); rintro e w64 ⟨rfl, hb⟩; refine ⟨_, rfl, ?_⟩; have n0_ := Aside0.mk (Kd.R_below (by (with_reducible repeat (first | apply Kd.R_alloc | apply Kd.R_drewN | apply Kd.R_drew)); exact (Kd.R_mono (Kd.R_far (p := ⟨gb529, 4, none⟩) (Kd.R_far (p := ⟨gb529, 3, none⟩) (Kd.R_far (p := ⟨gb529, 2, none⟩) (Kd.R_far (p := ⟨gb529, 1, none⟩) (Kd.R_far (p := ⟨gb529, 0, none⟩) (Kd.R_types HO497.out BK529.out (by decide)) (fun _ hk => hk.2) (.int .i64 t521)) (fun _ hk => hk.2) (.int .i64 t522)) (fun _ hk => hk.2) (.int .i64 t523)) (fun _ hk => hk.2) (.int .i64 t524)) (fun _ hk => hk.2) (.slice Ao46 t525.length co46)) (fun _ h_ => h_.1))) hb); have n1_ := Aside0.mk (Kd.R_below (by (with_reducible repeat (first | apply Kd.R_alloc | apply Kd.R_drewN | apply Kd.R_drew)); exact (Kd.R_mono (Kd.R_far (p := ⟨gb529, 4, none⟩) (Kd.R_far (p := ⟨gb529, 3, none⟩) (Kd.R_far (p := ⟨gb529, 2, none⟩) (Kd.R_far (p := ⟨gb529, 1, none⟩) (Kd.R_far (p := ⟨gb529, 0, none⟩) (Kd.R_types HO500.out BK529.out (by decide)) (fun _ hk => hk.2) (.int .i64 t521)) (fun _ hk => hk.2) (.int .i64 t522)) (fun _ hk => hk.2) (.int .i64 t523)) (fun _ hk => hk.2) (.int .i64 t524)) (fun _ hk => hk.2) (.slice Ao46 t525.length co46)) (fun _ h_ => h_.1))) hb); have n2_ := Aside0.mk (Kd.R_below (by (with_reducible repeat (first | apply Kd.R_alloc | apply Kd.R_drewN | apply Kd.R_drew)); exact (Kd.R_mono (Kd.R_far (p := ⟨gb529, 4, none⟩) (Kd.R_far (p := ⟨gb529, 3, none⟩) (Kd.R_far (p := ⟨gb529, 2, none⟩) (Kd.R_far (p := ⟨gb529, 1, none⟩) (Kd.R_far (p := ⟨gb529, 0, none⟩) (Kd.R_types HO507.out BK529.out (by decide)) (fun _ hk => hk.2) (.int .i64 t521)) (fun _ hk => hk.2) (.int .i64 t522)) (fun _ hk => hk.2) (.int .i64 t523)) (fun _ hk => hk.2) (.int .i64 t524)) (fun _ hk => hk.2) (.slice Ao46 t525.length co46)) (fun _ h_ => h_.1))) hb); have n3_ := Aside0.mk (Kd.R_below (by (with_reducible repeat (first | apply Kd.R_alloc | apply Kd.R_drewN | apply Kd.R_drew)); exact (Kd.R_mono (Kd.R_far (p := ⟨gb529, 4, none⟩) (Kd.R_far (p := ⟨gb529, 3, none⟩) (Kd.R_far (p := ⟨gb529, 2, none⟩) (Kd.R_far (p := ⟨gb529, 1, none⟩) (Kd.R_far (p := ⟨gb529, 0, none⟩) (Kd.R_types HO516.out BK529.out (by decide)) (fun _ hk => hk.2) (.int .i64 t521)) (fun _ hk => hk.2) (.int .i64 t522)) (fun _ hk => hk.2) (.int .i64 t523)) (fun _ hk => hk.2) (.int .i64 t524)) (fun _ hk => hk.2) (.slice Ao46 t525.length co46)) (fun _ h_ => h_.1))) hb); have n4_ := Aside0.mk (Kd.R_below (by (with_reducible repeat (first | apply Kd.R_alloc | apply Kd.R_drewN | apply Kd.R_drew)); exact (Kd.R_mono (Kd.R_far (p := ⟨gb529, 4, none⟩) (Kd.R_far (p := ⟨gb529, 3, none⟩) (Kd.R_far (p := ⟨gb529, 2, none⟩) (Kd.R_far (p := ⟨gb529, 1, none⟩) (Kd.R_far (p := ⟨gb529, 0, none⟩) (Kd.R_types HO520.out BK529.out (by decide)) (fun _ hk => hk.2) (.int .i64 t521)) (fun _ hk => hk.2) (.int .i64 t522)) (fun _ hk => hk.2) (.int .i64 t523)) (fun _ hk => hk.2) (.int .i64 t524)) (fun _ hk => hk.2) (.slice Ao46 t525.length co46)) (fun _ h_ => h_.1))) hb); have n5_ := Aside0.mk (Kd.R_below (by (with_reducible repeat (first | apply Kd.R_alloc | apply Kd.R_drewN | apply Kd.R_drew)); exact (Kd.R_mono (Kd.R_far (p := ⟨gb529, 4, none⟩) (Kd.R_far (p := ⟨gb529, 3, none⟩) (Kd.R_far (p := ⟨gb529, 2, none⟩) (Kd.R_far (p := ⟨gb529, 1, none⟩) (Kd.R_far (p := ⟨gb529, 0, none⟩) (Kd.R_types HO527.out BK529.out (by decide)) (fun _ hk => hk.2) (.int .i64 t521)) (fun _ hk => hk.2) (.int .i64 t522)) (fun _ hk => hk.2) (.int .i64 t523)) (fun _ hk => hk.2) (.int .i64 t524)) (fun _ hk => hk.2) (.slice Ao46 t525.length co46)) (fun _ h_ => h_.1))) hb); have n6_ := Aside0.mk (blk_below (g := gb489) (o := .cells #[.int .i64 a0_0, .int .i64 a0_1, .int .i64 a0_2, .int .i64 a0_3, .slice A0_4 l0_4.length c0_4] 26 (0, 0)) (by (with_reducible repeat (first | refine blk_drewN ?_ _ | refine blk_drew ?_ | refine blk_alloc ?_ _)); refine blk_far ?_ NB489_529.out _; (with_reducible repeat (first | refine blk_drewN ?_ _ | refine blk_drew ?_ | refine blk_alloc ?_ _)); refine blk_far ?_ NB489_529.out _; (with_reducible repeat (first | refine blk_drewN ?_ _ | refine blk_drew ?_ | refine blk_alloc ?_ _)); refine blk_far ?_ NB489_529.out _; (with_reducible repeat (first | refine blk_drewN ?_ _ | refine blk_drew ?_ | refine blk_alloc ?_ _)); refine blk_far ?_ NB489_529.out _; (with_reducible repeat (first | refine blk_drewN ?_ _ | refine blk_drew ?_ | refine blk_alloc ?_ _)); refine blk_far ?_ NB489_529.out _; (with_reducible repeat (first | refine blk_drewN ?_ _ | refine blk_drew ?_ | refine blk_alloc ?_ _)); exact BK489.out) hb); have n7_ := Aside0.mk (blk_below (g := gb509) (o := .cells #[.int .i64 t501, .int .i64 t502, .int .i64 t503, .int .i64 t504, .slice Ao29 t505.length co29] 31 (0, 0)) (by (with_reducible repeat (first | refine blk_drewN ?_ _ | refine blk_drew ?_ | refine blk_alloc ?_ _)); refine blk_far ?_ NB509_529.out _; (with_reducible repeat (first | refine blk_drewN ?_ _ | refine blk_drew ?_ | refine blk_alloc ?_ _)); refine blk_far ?_ NB509_529.out _; (with_reducible repeat (first | refine blk_drewN ?_ _ | refine blk_drew ?_ | refine blk_alloc ?_ _)); refine blk_far ?_ NB509_529.out _; (with_reducible repeat (first | refine blk_drewN ?_ _ | refine blk_drew ?_ | refine blk_alloc ?_ _)); refine blk_far ?_ NB509_529.out _; (with_reducible repeat (first | refine blk_drewN ?_ _ | refine blk_drew ?_ | refine blk_alloc ?_ _)); refine blk_far ?_ NB509_529.out _; (with_reducible repeat (first | refine blk_drewN ?_ _ | refine blk_drew ?_ | refine blk_alloc ?_ _)); exact BK509.out) hb); have n8_ := Aside0.mk (blk_below (g := gb517) (o := .cells #[.int .i64 t510, .int .i64 t511, .int .i64 t512, .int .i64 t513, .slice Ao36 t514.length co36] 31 (0, 0)) (by (with_reducible repeat (first | refine blk_drewN ?_ _ | refine blk_drew ?_ | refine blk_alloc ?_ _)); refine blk_far ?_ NB517_529.out _; (with_reducible repeat (first | refine blk_drewN ?_ _ | refine blk_drew ?_ | refine blk_alloc ?_ _)); refine blk_far ?_ NB517_529.out _; (with_reducible repeat (first | refine blk_drewN ?_ _ | refine blk_drew ?_ | refine blk_alloc ?_ _)); refine blk_far ?_ NB517_529.out _; (with_reducible repeat (first | refine blk_drewN ?_ _ | refine blk_drew ?_ | refine blk_alloc ?_ _)); refine blk_far ?_ NB517_529.out _; (with_reducible repeat (first | refine blk_drewN ?_ _ | refine blk_drew ?_ | refine blk_alloc ?_ _)); refine blk_far ?_ NB517_529.out _; (with_reducible repeat (first | refine blk_drewN ?_ _ | refine blk_drew ?_ | refine blk_alloc ?_ _)); exact BK517.out) hb); have n9_ := Aside0.mk (blk_below (g := gb529) (o := .cells #[.int .i64 t521, .int .i64 t522, .int .i64 t523, .int .i64 t524, .slice Ao46 t525.length co46] 31 (0, 0)) (by (with_reducible repeat (first | refine blk_drewN ?_ _ | refine blk_drew ?_ | refine blk_alloc ?_ _)); refine blk_put (cs := #[.int .i64 t521, .int .i64 t522, .int .i64 t523, .int .i64 t524, .slice none 0 0]) ?_ 4 _ rfl; (with_reducible repeat (first | refine blk_drewN ?_ _ | refine blk_drew ?_ | refine blk_alloc ?_ _)); refine blk_put (cs := #[.int .i64 t521, .int .i64 t522, .int .i64 t523, .int .i64 0, .slice none 0 0]) ?_ 3 _ rfl; (with_reducible repeat (first | refine blk_drewN ?_ _ | refine blk_drew ?_ | refine blk_alloc ?_ _)); refine blk_put (cs := #[.int .i64 t521, .int .i64 t522, .int .i64 0, .int .i64 0, .slice none 0 0]) ?_ 2 _ rfl; (with_reducible repeat (first | refine blk_drewN ?_ _ | refine blk_drew ?_ | refine blk_alloc ?_ _)); refine blk_put (cs := #[.int .i64 t521, .int .i64 0, .int .i64 0, .int .i64 0, .slice none 0 0]) ?_ 1 _ rfl; (with_reducible repeat (first | refine blk_drewN ?_ _ | refine blk_drew ?_ | refine blk_alloc ?_ _)); refine blk_put (cs := #[.int .i64 0, .int .i64 0, .int .i64 0, .int .i64 0, .slice none 0 0]) ?_ 0 _ rfl; (with_reducible repeat (first | refine blk_drewN ?_ _ | refine blk_drew ?_ | refine blk_alloc ?_ _)); exact BK529.out) hb); have n10_ := Aside0.mk (below_step (by repeat (first | (with_reducible first | exact HB.out | apply below_alloc | apply pw_below_drewN | apply below_drew1 | refine below_set ?_ GE489.out | refine below_set ?_ GE509.out | refine below_set ?_ GE517.out | refine below_set ?_ GE529.out) | exact HB.out)) hb); clear HO497; clear HO500; clear HO507; clear HO516; clear HO520; clear HO527; clear BK489; clear BK509; clear BK517; clear BK529; clear HB; have HO497 := n0_; have HO500 := n1_; have HO507 := n2_; have HO516 := n3_; have HO520 := n4_; have HO527 := n5_; have BK489 := n6_; have BK509 := n7_; have BK517 := n8_; have BK529 := n9_; have HB := n10_; clear n0_ n1_ n2_ n3_ n4_ n5_ n6_ n7_ n8_ n9_ n10_; (try clear hb); (try clear hb2); (try clear hk); (try clear hi)))
          go_meet
          case rel => exact ⟨_, (true), (by first | rfl | (simp; done) | (simp [*]; done)), H', ⟨by first | omega | exact Nat.le_refl _⟩, ⟨by (with_reducible repeat (first | apply Kd.R_alloc | apply Kd.R_drewN | apply Kd.R_drew)); exact Kd.R_mono HO520.out (fun _ hk => ⟨hk.1.1.2, ⟨hk.1.2, hk.2⟩⟩)⟩, ⟨by (with_reducible repeat (first | apply Kd.R_alloc | apply Kd.R_drewN | apply Kd.R_drew)); exact Kd.R_mono HO507.out (fun _ hk => ⟨hk.1.2, ⟨hk.1.1.2, hk.2⟩⟩)⟩, ⟨by (with_reducible repeat (first | apply Kd.R_alloc | apply Kd.R_drewN | apply Kd.R_drew)); exact Kd.R_mono HO516.out (fun _ hk => ⟨hk.1.2, ⟨hk.1.1.2, hk.2⟩⟩)⟩, ⟨by (with_reducible repeat (first | apply Kd.R_alloc | apply Kd.R_drewN | apply Kd.R_drew)); exact Kd.R_mono HO527.out (fun _ hk => ⟨hk.2, ⟨hk.1.1.2, hk.1.2⟩⟩)⟩, ⟨by (with_reducible repeat (first | refine blk_drewN ?_ _ | refine blk_drew ?_ | refine blk_alloc ?_ _)); exact BK489.out⟩, ⟨by (with_reducible repeat (first | refine blk_drewN ?_ _ | refine blk_drew ?_ | refine blk_alloc ?_ _)); exact BK509.out⟩, ⟨by (with_reducible repeat (first | refine blk_drewN ?_ _ | refine blk_drew ?_ | refine blk_alloc ?_ _)); exact BK517.out⟩, ⟨by (with_reducible repeat (first | refine blk_drewN ?_ _ | refine blk_drew ?_ | refine blk_alloc ?_ _)); exact BK529.out⟩, ⟨by repeat (first | (with_reducible first | exact HB.out | apply below_alloc | apply pw_below_drewN | apply below_drew1 | refine below_set ?_ GE489.out | refine below_set ?_ GE509.out | refine below_set ?_ GE517.out | refine below_set ?_ GE529.out) | exact HB.out)⟩⟩
      case rest =>
        clear HC16
        try clear c1
        try clear c2
        try clear p2
        try clear c3
        try clear c3b0
        try clear c3b1
        try clear c4
        try clear c5
        try clear c6
        try clear c6b0
        try clear c7
        try clear c10
        try clear c12
        try clear c14
        try clear c27
        try clear c29
        try clear c30
        try clear c31
        try clear c33
        try clear c34
        try clear c42
        try clear c43
        try clear c44
        try clear c48
        try clear c49
        try clear c50
        try clear c51
        try clear c53
        try clear c54
        try clear c57
        try clear c58
        try clear c59
        try clear c61
        try clear c62
        try clear hcz18_0
        try clear hcz18_1
        try clear hcz18_2
        try clear hcz18_3
        try clear hcz18_4
        try clear hcz20_0
        try clear hcz20_1
        try clear hcz20_2
        try clear hcz20_3
        try clear hcz20_4
        try clear hcz28_0
        try clear hcz28_1
        try clear hcz28_2
        try clear hcz28_3
        try clear hcz28_4
        try clear hcz30_0
        try clear hcz30_1
        try clear hcz30_2
        try clear hcz30_3
        try clear hcz30_4
        try clear hcz35_0
        try clear hcz35_1
        try clear hcz35_2
        try clear hcz35_3
        try clear hcz35_4
        try clear hcz38_0
        try clear hcz38_1
        try clear hcz38_2
        try clear hcz38_3
        try clear hcz38_4
        try clear hcz45_0
        try clear hcz45_1
        try clear hcz45_2
        try clear hcz45_3
        try clear hcz45_4
        try clear hcz52_0
        try clear hcz52_1
        try clear hcz52_2
        try clear hcz52_3
        try clear hcz52_4
        try clear hcz55_0
        try clear hcz55_1
        try clear hcz55_2
        try clear hcz55_3
        try clear hcz55_4
        try clear hcz60_0
        try clear hcz60_1
        try clear hcz60_2
        try clear hcz60_3
        try clear hcz60_4
        try clear hcz63_0
        try clear hcz63_1
        try clear hcz63_2
        try clear hcz63_3
        try clear hcz63_4
        try clear hcz8_0
        try clear hcz8_1
        try clear hcz8_2
        try clear hcz8_3
        try clear hcz8_4
        try clear hfz18_0
        try clear hfz18_1
        try clear hfz18_2
        try clear hfz18_3
        try clear hfz18_4
        try clear hfz20_0
        try clear hfz20_1
        try clear hfz20_2
        try clear hfz20_3
        try clear hfz20_4
        try clear hfz28_0
        try clear hfz28_1
        try clear hfz28_2
        try clear hfz28_3
        try clear hfz28_4
        try clear hfz30_0
        try clear hfz30_1
        try clear hfz30_2
        try clear hfz30_3
        try clear hfz30_4
        try clear hfz35_0
        try clear hfz35_1
        try clear hfz35_2
        try clear hfz35_3
        try clear hfz35_4
        try clear hfz38_0
        try clear hfz38_1
        try clear hfz38_2
        try clear hfz38_3
        try clear hfz38_4
        try clear hfz45_0
        try clear hfz45_1
        try clear hfz45_2
        try clear hfz45_3
        try clear hfz45_4
        try clear hfz52_0
        try clear hfz52_1
        try clear hfz52_2
        try clear hfz52_3
        try clear hfz52_4
        try clear hfz55_0
        try clear hfz55_1
        try clear hfz55_2
        try clear hfz55_3
        try clear hfz55_4
        try clear hfz60_0
        try clear hfz60_1
        try clear hfz60_2
        try clear hfz60_3
        try clear hfz60_4
        try clear hfz63_0
        try clear hfz63_1
        try clear hfz63_2
        try clear hfz63_3
        try clear hfz63_4
        try clear hfz8_0
        try clear hfz8_1
        try clear hfz8_2
        try clear hfz8_3
        try clear hfz8_4
        obtain ⟨kq, x51_15, rfl, HA, HJ15, HO_9, HO_510004, HO_518004, HO_530004, BK489, BK509, BK517, BK529, HB⟩ := hcut
        cases kq with
        | zero => exact absurd HA.out (by simp [laws_FnExactRecolour.j0])
        | succ kj15 =>
          have H := HA.out
          clear HA
          simp only [laws_FnExactRecolour.j0] at H
          by_cases c65 : x51_15 = true
          · subst c65
            have H1 : (some false) = some true := by rw [if_pos rfl] at H; first | done | exact H
            clear H
            have H := H1
            clear H1
            exact absurd H (by simp)
          · replace c65 := Bool.eq_false_iff.mpr c65
            subst c65
            have H1 : ((laws_toPattern.f kj15 a0_0 a0_1 a0_2 a0_3 l0_4).bind fun bt531 => ((laws_eqPattern.f kj15 t510 t511 t512 t513 t514 bt531.1 bt531.2.1 bt531.2.2.1 bt531.2.2.2.1 bt531.2.2.2.2).bind fun t538 => (if t538 = true then ((laws_toInt64S.f kj15 l1).bind fun t539 => ((laws_eqInt64S.f kj15 t518 t539).bind fun t542 => (if t542 = true then ((laws_markPattern.f kj15 t510 t511 t512 t513 t514 1).bind fun bt543 => ((laws_markInt64S.f kj15 t518 bt543.1).bind fun bt545 => (if bt545.1 < 0 then (laws_FnExactRecolour.j1 kj15 l1 t508 true a0_0 a0_1 a0_2 a0_3 l0_4 t501 t502 t503 t504 t505 t521 t522 t523 t524 t525) else ((laws_eqPattern.f kj15 t521 t522 t523 t524 t525 t501 t502 t503 t504 t505).bind fun t547 => (if t547 = true then (laws_FnExactRecolour.j1 kj15 l1 t508 (t528 != t508) a0_0 a0_1 a0_2 a0_3 l0_4 t501 t502 t503 t504 t505 t521 t522 t523 t524 t525) else (laws_FnExactRecolour.j1 kj15 l1 t508 true a0_0 a0_1 a0_2 a0_3 l0_4 t501 t502 t503 t504 t505 t521 t522 t523 t524 t525)))))) else (some false)))) else (some false)))) = some true := by rw [if_neg (show ¬ (false = true) by decide)] at H; first | done | exact H
            clear H
            have H := H1
            clear H1
            replace H := Option.bind_eq_some_iff.mp H
            obtain ⟨⟨t531, t532, t533, t534, t535⟩, A660, H⟩ := H
            replace H : ((laws_eqPattern.f kj15 t510 t511 t512 t513 t514 t531 t532 t533 t534 t535).bind fun t538 => (if t538 = true then ((laws_toInt64S.f kj15 l1).bind fun t539 => ((laws_eqInt64S.f kj15 t518 t539).bind fun t542 => (if t542 = true then ((laws_markPattern.f kj15 t510 t511 t512 t513 t514 1).bind fun bt543 => ((laws_markInt64S.f kj15 t518 bt543.1).bind fun bt545 => (if bt545.1 < 0 then (laws_FnExactRecolour.j1 kj15 l1 t508 true a0_0 a0_1 a0_2 a0_3 l0_4 t501 t502 t503 t504 t505 t521 t522 t523 t524 t525) else ((laws_eqPattern.f kj15 t521 t522 t523 t524 t525 t501 t502 t503 t504 t505).bind fun t547 => (if t547 = true then (laws_FnExactRecolour.j1 kj15 l1 t508 (t528 != t508) a0_0 a0_1 a0_2 a0_3 l0_4 t501 t502 t503 t504 t505 t521 t522 t523 t524 t525) else (laws_FnExactRecolour.j1 kj15 l1 t508 true a0_0 a0_1 a0_2 a0_3 l0_4 t501 t502 t503 t504 t505 t521 t522 t523 t524 t525)))))) else (some false)))) else (some false))) = some true := H
            have A66 := Aside0.mk A660
            clear A660
            replace H := Option.bind_eq_some_iff.mp H
            obtain ⟨t538, A670, H⟩ := H
            replace H : (if t538 = true then ((laws_toInt64S.f kj15 l1).bind fun t539 => ((laws_eqInt64S.f kj15 t518 t539).bind fun t542 => (if t542 = true then ((laws_markPattern.f kj15 t510 t511 t512 t513 t514 1).bind fun bt543 => ((laws_markInt64S.f kj15 t518 bt543.1).bind fun bt545 => (if bt545.1 < 0 then (laws_FnExactRecolour.j1 kj15 l1 t508 true a0_0 a0_1 a0_2 a0_3 l0_4 t501 t502 t503 t504 t505 t521 t522 t523 t524 t525) else ((laws_eqPattern.f kj15 t521 t522 t523 t524 t525 t501 t502 t503 t504 t505).bind fun t547 => (if t547 = true then (laws_FnExactRecolour.j1 kj15 l1 t508 (t528 != t508) a0_0 a0_1 a0_2 a0_3 l0_4 t501 t502 t503 t504 t505 t521 t522 t523 t524 t525) else (laws_FnExactRecolour.j1 kj15 l1 t508 true a0_0 a0_1 a0_2 a0_3 l0_4 t501 t502 t503 t504 t505 t521 t522 t523 t524 t525)))))) else (some false)))) else (some false)) = some true := H
            have A67 := Aside0.mk A670
            clear A670
            by_cases c68 : t538 = true
            · subst c68
              have H1 : ((laws_toInt64S.f kj15 l1).bind fun t539 => ((laws_eqInt64S.f kj15 t518 t539).bind fun t542 => (if t542 = true then ((laws_markPattern.f kj15 t510 t511 t512 t513 t514 1).bind fun bt543 => ((laws_markInt64S.f kj15 t518 bt543.1).bind fun bt545 => (if bt545.1 < 0 then (laws_FnExactRecolour.j1 kj15 l1 t508 true a0_0 a0_1 a0_2 a0_3 l0_4 t501 t502 t503 t504 t505 t521 t522 t523 t524 t525) else ((laws_eqPattern.f kj15 t521 t522 t523 t524 t525 t501 t502 t503 t504 t505).bind fun t547 => (if t547 = true then (laws_FnExactRecolour.j1 kj15 l1 t508 (t528 != t508) a0_0 a0_1 a0_2 a0_3 l0_4 t501 t502 t503 t504 t505 t521 t522 t523 t524 t525) else (laws_FnExactRecolour.j1 kj15 l1 t508 true a0_0 a0_1 a0_2 a0_3 l0_4 t501 t502 t503 t504 t505 t521 t522 t523 t524 t525)))))) else (some false)))) = some true := by rw [if_pos rfl] at H; first | done | exact H
              clear H
              have H := H1
              clear H1
              replace H := Option.bind_eq_some_iff.mp H
              obtain ⟨t539, A690, H⟩ := H
              replace H : ((laws_eqInt64S.f kj15 t518 t539).bind fun t542 => (if t542 = true then ((laws_markPattern.f kj15 t510 t511 t512 t513 t514 1).bind fun bt543 => ((laws_markInt64S.f kj15 t518 bt543.1).bind fun bt545 => (if bt545.1 < 0 then (laws_FnExactRecolour.j1 kj15 l1 t508 true a0_0 a0_1 a0_2 a0_3 l0_4 t501 t502 t503 t504 t505 t521 t522 t523 t524 t525) else ((laws_eqPattern.f kj15 t521 t522 t523 t524 t525 t501 t502 t503 t504 t505).bind fun t547 => (if t547 = true then (laws_FnExactRecolour.j1 kj15 l1 t508 (t528 != t508) a0_0 a0_1 a0_2 a0_3 l0_4 t501 t502 t503 t504 t505 t521 t522 t523 t524 t525) else (laws_FnExactRecolour.j1 kj15 l1 t508 true a0_0 a0_1 a0_2 a0_3 l0_4 t501 t502 t503 t504 t505 t521 t522 t523 t524 t525)))))) else (some false))) = some true := H
              have A69 := Aside0.mk A690
              clear A690
              replace H := Option.bind_eq_some_iff.mp H
              obtain ⟨t542, A700, H⟩ := H
              replace H : (if t542 = true then ((laws_markPattern.f kj15 t510 t511 t512 t513 t514 1).bind fun bt543 => ((laws_markInt64S.f kj15 t518 bt543.1).bind fun bt545 => (if bt545.1 < 0 then (laws_FnExactRecolour.j1 kj15 l1 t508 true a0_0 a0_1 a0_2 a0_3 l0_4 t501 t502 t503 t504 t505 t521 t522 t523 t524 t525) else ((laws_eqPattern.f kj15 t521 t522 t523 t524 t525 t501 t502 t503 t504 t505).bind fun t547 => (if t547 = true then (laws_FnExactRecolour.j1 kj15 l1 t508 (t528 != t508) a0_0 a0_1 a0_2 a0_3 l0_4 t501 t502 t503 t504 t505 t521 t522 t523 t524 t525) else (laws_FnExactRecolour.j1 kj15 l1 t508 true a0_0 a0_1 a0_2 a0_3 l0_4 t501 t502 t503 t504 t505 t521 t522 t523 t524 t525)))))) else (some false)) = some true := H
              have A70 := Aside0.mk A700
              clear A700
              by_cases c71 : t542 = true
              · subst c71
                have H1 : ((laws_markPattern.f kj15 t510 t511 t512 t513 t514 1).bind fun bt543 => ((laws_markInt64S.f kj15 t518 bt543.1).bind fun bt545 => (if bt545.1 < 0 then (laws_FnExactRecolour.j1 kj15 l1 t508 true a0_0 a0_1 a0_2 a0_3 l0_4 t501 t502 t503 t504 t505 t521 t522 t523 t524 t525) else ((laws_eqPattern.f kj15 t521 t522 t523 t524 t525 t501 t502 t503 t504 t505).bind fun t547 => (if t547 = true then (laws_FnExactRecolour.j1 kj15 l1 t508 (t528 != t508) a0_0 a0_1 a0_2 a0_3 l0_4 t501 t502 t503 t504 t505 t521 t522 t523 t524 t525) else (laws_FnExactRecolour.j1 kj15 l1 t508 true a0_0 a0_1 a0_2 a0_3 l0_4 t501 t502 t503 t504 t505 t521 t522 t523 t524 t525)))))) = some true := by rw [if_pos rfl] at H; first | done | exact H
                clear H
                have H := H1
                clear H1
                replace H := Option.bind_eq_some_iff.mp H
                obtain ⟨⟨t543, t544⟩, A720, H⟩ := H
                replace H : ((laws_markInt64S.f kj15 t518 t543).bind fun bt545 => (if bt545.1 < 0 then (laws_FnExactRecolour.j1 kj15 l1 t508 true a0_0 a0_1 a0_2 a0_3 l0_4 t501 t502 t503 t504 t505 t521 t522 t523 t524 t525) else ((laws_eqPattern.f kj15 t521 t522 t523 t524 t525 t501 t502 t503 t504 t505).bind fun t547 => (if t547 = true then (laws_FnExactRecolour.j1 kj15 l1 t508 (t528 != t508) a0_0 a0_1 a0_2 a0_3 l0_4 t501 t502 t503 t504 t505 t521 t522 t523 t524 t525) else (laws_FnExactRecolour.j1 kj15 l1 t508 true a0_0 a0_1 a0_2 a0_3 l0_4 t501 t502 t503 t504 t505 t521 t522 t523 t524 t525))))) = some true := H
                have A72 := Aside0.mk A720
                clear A720
                replace H := Option.bind_eq_some_iff.mp H
                obtain ⟨⟨t545, t546⟩, A730, H⟩ := H
                replace H : (if t545 < 0 then (laws_FnExactRecolour.j1 kj15 l1 t508 true a0_0 a0_1 a0_2 a0_3 l0_4 t501 t502 t503 t504 t505 t521 t522 t523 t524 t525) else ((laws_eqPattern.f kj15 t521 t522 t523 t524 t525 t501 t502 t503 t504 t505).bind fun t547 => (if t547 = true then (laws_FnExactRecolour.j1 kj15 l1 t508 (t528 != t508) a0_0 a0_1 a0_2 a0_3 l0_4 t501 t502 t503 t504 t505 t521 t522 t523 t524 t525) else (laws_FnExactRecolour.j1 kj15 l1 t508 true a0_0 a0_1 a0_2 a0_3 l0_4 t501 t502 t503 t504 t505 t521 t522 t523 t524 t525)))) = some true := H
                have A73 := Aside0.mk A730
                clear A730
                have HC74 := Aside0.mk H
                clear H
                try go_wp2
                have n0_ := Aside0.mk (Kd.R_drew HO_9.out)
                have n1_ := Aside0.mk (Kd.R_drew HO_510004.out)
                have n2_ := Aside0.mk (Kd.R_drew HO_518004.out)
                have n3_ := Aside0.mk (Kd.R_drew HO_530004.out)
                have n4_ := Aside0.mk (blk_drew BK489.out)
                have n5_ := Aside0.mk (blk_drew BK509.out)
                have n6_ := Aside0.mk (blk_drew BK517.out)
                have n7_ := Aside0.mk (blk_drew BK529.out)
                have n8_ := Aside0.mk (below_drew1 HB.out)
                clear HO_9
                clear HO_510004
                clear HO_518004
                clear HO_530004
                clear BK489
                clear BK509
                clear BK517
                clear BK529
                clear HB
                have HO_9 := n0_
                have HO_510004 := n1_
                have HO_518004 := n2_
                have HO_530004 := n3_
                have BK489 := n4_
                have BK509 := n5_
                have BK517 := n6_
                have BK529 := n7_
                have HB := n8_
                clear n0_ n1_ n2_ n3_ n4_ n5_ n6_ n7_ n8_
                refine start_ (n := 5) (S := fun w' => w'.cell? ⟨gb517, 0, none⟩ = some (.int .i64 t510) ∧ w'.cell? ⟨gb517, 1, none⟩ = some (.int .i64 t511) ∧ w'.cell? ⟨gb517, 2, none⟩ = some (.int .i64 t512) ∧ w'.cell? ⟨gb517, 3, none⟩ = some (.int .i64 t513) ∧ w'.cell? ⟨gb517, 4, none⟩ = some (.slice Ao36 t514.length co36) ∧ w'.cell? ⟨gb489, 0, none⟩ = some (.int .i64 a0_0) ∧ w'.cell? ⟨gb489, 1, none⟩ = some (.int .i64 a0_1) ∧ w'.cell? ⟨gb489, 2, none⟩ = some (.int .i64 a0_2) ∧ w'.cell? ⟨gb489, 3, none⟩ = some (.int .i64 a0_3) ∧ w'.cell? ⟨gb489, 4, none⟩ = some (.slice A0_4 l0_4.length c0_4)) (ds := []) #[false, false, false, false, false] (by kernel_rfl) rfl rfl ⟨(blk_cell BK517.out 0).trans rfl, (blk_cell BK517.out 1).trans rfl, (blk_cell BK517.out 2).trans rfl, (blk_cell BK517.out 3).trans rfl, (blk_cell BK517.out 4).trans rfl, (blk_cell BK489.out 0).trans rfl, (blk_cell BK489.out 1).trans rfl, (blk_cell BK489.out 2).trans rfl, (blk_cell BK489.out 3).trans rfl, (blk_cell BK489.out 4).trans rfl⟩ (fun hHeld => ?_)
                generalize wc.drew = w75 at HO_9 HO_510004 HO_518004 HO_530004 BK489 BK509 BK517 BK529 HB hHeld ⊢
                refine take_ (i := 0) (N := some 52) (v := ?_) (a' := ?_) #[true, false, false, false, false] rfl rfl (by kernel_rfl) (fun _ _ _ h => h) (Or.inl ⟨by rfl, ?_⟩) hHeld ?_ ?_
                rotate_left
                · rintro w' ⟨s0, s1, s2, s3, s4, s5, s6, s7, s8, s9⟩
                  go_simp
                  with_reducible rfl
                rotate_left
                · simp only [Act.put, List.setIfInBounds_toArray, List.set_cons_zero, List.set_cons_succ, i64_w, i32_w]
                  rfl
                refine take_ (i := 1) (N := some 53) (v := ?_) (a' := ?_) #[true, true, false, false, false] rfl rfl (by kernel_rfl) (fun _ _ _ h => h) (Or.inl ⟨by rfl, ?_⟩) hHeld ?_ ?_
                rotate_left
                · rintro w' ⟨s0, s1, s2, s3, s4, s5, s6, s7, s8, s9⟩
                  go_simp
                  with_reducible rfl
                rotate_left
                · simp only [Act.put, List.setIfInBounds_toArray, List.set_cons_zero, List.set_cons_succ, i64_w, i32_w]
                  rfl
                refine one_ (i := 2) (N := some 54) #[true, true, true, false, false] rfl rfl (by kernel_rfl) (by decide) (fun K hK => ?_)
                refine goes_ Try.func12 (by kernel_rfl) rfl #[.agg #[.int .i64 a0_0, .int .i64 a0_1, .int .i64 a0_2, .int .i64 a0_3, .slice A0_4 l0_4.length c0_4]] (by rfl) rfl rfl (by (try simp only [List.map_toArray, List.map_cons, List.map_nil]); first | done | rfl | (simp only [List.length_drop, List.length_take]; rfl)) ?_
                with_reducible refine (laws_toPattern.calls kj15 a0_0 a0_1 a0_2 a0_3 _ _ l0_4 t531 t532 t533 t534 t535 _ ?side1 ?side2 A66.out).mono ?_
                (case side1 => repeat (first | exact (Kd.C_below HR0_4.out HB.out) | (with_reducible refine Kd.C_alloc ?_ _) | (with_reducible refine Kd.C_drewN ?_ _) | (with_reducible refine Kd.C_drew ?_)))
                (case side2 => exact HC0_4.out)
                rintro e w76 ⟨v536, rfl, ho0, hb⟩
                refine ⟨_, rfl, ?_⟩
                have n0_ := Aside0.mk (Kd.R_elder' (by (with_reducible repeat (first | apply Kd.R_alloc | apply Kd.R_drewN | apply Kd.R_drew)); exact HO_9.out) (Kd.R_base ho0) hb)
                have n1_ := Aside0.mk (Kd.R_elder' (by (with_reducible repeat (first | apply Kd.R_alloc | apply Kd.R_drewN | apply Kd.R_drew)); exact HO_510004.out) (Kd.R_base ho0) hb)
                have n2_ := Aside0.mk (Kd.R_elder' (by (with_reducible repeat (first | apply Kd.R_alloc | apply Kd.R_drewN | apply Kd.R_drew)); exact HO_518004.out) (Kd.R_base ho0) hb)
                have n3_ := Aside0.mk (Kd.R_elder' (by (with_reducible repeat (first | apply Kd.R_alloc | apply Kd.R_drewN | apply Kd.R_drew)); exact HO_530004.out) (Kd.R_base ho0) hb)
                have n4_ := Aside0.mk (Kd.R_lower (Kd.R_new' (Kd.R_new' (Kd.R_new' (Kd.R_new' ho0 (Kd.R_lt (by (with_reducible repeat (first | apply Kd.R_alloc | apply Kd.R_drewN | apply Kd.R_drew)); exact HO_9.out))) (Kd.R_lt (by (with_reducible repeat (first | apply Kd.R_alloc | apply Kd.R_drewN | apply Kd.R_drew)); exact HO_510004.out))) (Kd.R_lt (by (with_reducible repeat (first | apply Kd.R_alloc | apply Kd.R_drewN | apply Kd.R_drew)); exact HO_518004.out))) (Kd.R_lt (by (with_reducible repeat (first | apply Kd.R_alloc | apply Kd.R_drewN | apply Kd.R_drew)); exact HO_530004.out))) (below_size (by repeat (first | (with_reducible first | exact HB.out | apply below_alloc | apply pw_below_drewN | apply below_drew1 | refine below_set ?_ GE489.out | refine below_set ?_ GE509.out | refine below_set ?_ GE517.out | refine below_set ?_ GE529.out) | exact HB.out))))
                have n5_ := Aside0.mk (blk_below (g := gb489) (o := .cells #[.int .i64 a0_0, .int .i64 a0_1, .int .i64 a0_2, .int .i64 a0_3, .slice A0_4 l0_4.length c0_4] 26 (0, 0)) (by (with_reducible repeat (first | refine blk_drewN ?_ _ | refine blk_drew ?_ | refine blk_alloc ?_ _)); exact BK489.out) hb)
                have n6_ := Aside0.mk (blk_below (g := gb509) (o := .cells #[.int .i64 t501, .int .i64 t502, .int .i64 t503, .int .i64 t504, .slice Ao29 t505.length co29] 31 (0, 0)) (by (with_reducible repeat (first | refine blk_drewN ?_ _ | refine blk_drew ?_ | refine blk_alloc ?_ _)); exact BK509.out) hb)
                have n7_ := Aside0.mk (blk_below (g := gb517) (o := .cells #[.int .i64 t510, .int .i64 t511, .int .i64 t512, .int .i64 t513, .slice Ao36 t514.length co36] 31 (0, 0)) (by (with_reducible repeat (first | refine blk_drewN ?_ _ | refine blk_drew ?_ | refine blk_alloc ?_ _)); exact BK517.out) hb)
                have n8_ := Aside0.mk (blk_below (g := gb529) (o := .cells #[.int .i64 t521, .int .i64 t522, .int .i64 t523, .int .i64 t524, .slice Ao46 t525.length co46] 31 (0, 0)) (by (with_reducible repeat (first | refine blk_drewN ?_ _ | refine blk_drew ?_ | refine blk_alloc ?_ _)); exact BK529.out) hb)
                have n9_ := Aside0.mk (below_step (by repeat (first | (with_reducible first | exact HB.out | apply below_alloc | apply pw_below_drewN | apply below_drew1 | refine below_set ?_ GE489.out | refine below_set ?_ GE509.out | refine below_set ?_ GE517.out | refine below_set ?_ GE529.out) | exact HB.out)) hb)
                clear HO_9
                clear HO_510004
                clear HO_518004
                clear HO_530004
                clear BK489
                clear BK509
                clear BK517
                clear BK529
                clear HB
                have HO_9 := n0_
                have HO_510004 := n1_
                have HO_518004 := n2_
                have HO_530004 := n3_
                have HO537 := n4_
                have BK489 := n5_
                have BK509 := n6_
                have BK517 := n7_
                have BK529 := n8_
                have HB := n9_
                clear n0_ n1_ n2_ n3_ n4_ n5_ n6_ n7_ n8_ n9_
                (try clear hb)
                (try clear hb2)
                (try clear hk)
                (try clear hi)
                (try clear ho0)
                obtain ⟨Ao77, co77, eo77⟩ := Kd.R_slice HO537.out
                (first | subst eo77 | (injection eo77 with f1_ f2_ f3_; have f4_ := f1_.symm; have f5_ := f3_.symm; clear f1_ f2_ f3_; subst f4_; subst f5_))
                refine hK.out _ _ ⟨(blk_cell BK517.out 0).trans rfl, (blk_cell BK517.out 1).trans rfl, (blk_cell BK517.out 2).trans rfl, (blk_cell BK517.out 3).trans rfl, (blk_cell BK517.out 4).trans rfl, (blk_cell BK489.out 0).trans rfl, (blk_cell BK489.out 1).trans rfl, (blk_cell BK489.out 2).trans rfl, (blk_cell BK489.out 3).trans rfl, (blk_cell BK489.out 4).trans rfl⟩ (fun hHeld => ?_)
                clear hK K
                refine norm_ (a' := ?_) ?_ ?_
                rotate_left
                · show Act.put _ (some 54) _ = _
                  simp only [Act.put, List.setIfInBounds_toArray, List.set_cons_zero, List.set_cons_succ, i64_w, i32_w]
                  rfl
                refine one_ (i := 3) (N := some 55) #[true, true, true, true, false] rfl rfl (by kernel_rfl) (by decide) (fun K hK => ?_)
                refine goes_ Try.func14 (by kernel_rfl) rfl #[.agg #[.int .i64 t510, .int .i64 t511, .int .i64 t512, .int .i64 t513, .slice Ao36 t514.length co36], .agg #[.int .i64 t531, .int .i64 t532, .int .i64 t533, .int .i64 t534, .slice Ao77 t535.length co77]] (by rfl) rfl rfl (by (try simp only [List.map_toArray, List.map_cons, List.map_nil]); first | done | rfl | (simp only [List.length_drop, List.length_take]; rfl)) ?_
                with_reducible refine (laws_eqPattern.calls kj15 t510 t511 t512 t513 _ _ t514 t531 t532 t533 t534 _ _ t535 true _ ?side1 ?side2 ?side3 ?side4 A67.out).mono ?_
                (case side1 => repeat (first | exact (Kd.R_reads' HO_518004.out).2.2 | (with_reducible refine Kd.C_alloc ?_ _) | (with_reducible refine Kd.C_drewN ?_ _) | (with_reducible refine Kd.C_drew ?_)))
                (case side2 => exact (Kd.R_reads' HO_518004.out).2.1)
                (case side3 => repeat (first | exact (Kd.R_reads' HO537.out).2.2 | (with_reducible refine Kd.C_alloc ?_ _) | (with_reducible refine Kd.C_drewN ?_ _) | (with_reducible refine Kd.C_drew ?_)))
                (case side4 => exact (Kd.R_reads' HO537.out).2.1)
                rintro e w78 ⟨rfl, hb⟩
                refine ⟨_, rfl, ?_⟩
                have n0_ := Aside0.mk (Kd.R_below (by (with_reducible repeat (first | apply Kd.R_alloc | apply Kd.R_drewN | apply Kd.R_drew)); exact HO_9.out) hb)
                have n1_ := Aside0.mk (Kd.R_below (by (with_reducible repeat (first | apply Kd.R_alloc | apply Kd.R_drewN | apply Kd.R_drew)); exact HO_510004.out) hb)
                have n2_ := Aside0.mk (Kd.R_below (by (with_reducible repeat (first | apply Kd.R_alloc | apply Kd.R_drewN | apply Kd.R_drew)); exact HO_518004.out) hb)
                have n3_ := Aside0.mk (Kd.R_below (by (with_reducible repeat (first | apply Kd.R_alloc | apply Kd.R_drewN | apply Kd.R_drew)); exact HO_530004.out) hb)
                have n4_ := Aside0.mk (Kd.R_below (by (with_reducible repeat (first | apply Kd.R_alloc | apply Kd.R_drewN | apply Kd.R_drew)); exact HO537.out) hb)
                have n5_ := Aside0.mk (blk_below (g := gb489) (o := .cells #[.int .i64 a0_0, .int .i64 a0_1, .int .i64 a0_2, .int .i64 a0_3, .slice A0_4 l0_4.length c0_4] 26 (0, 0)) (by (with_reducible repeat (first | refine blk_drewN ?_ _ | refine blk_drew ?_ | refine blk_alloc ?_ _)); exact BK489.out) hb)
                have n6_ := Aside0.mk (blk_below (g := gb509) (o := .cells #[.int .i64 t501, .int .i64 t502, .int .i64 t503, .int .i64 t504, .slice Ao29 t505.length co29] 31 (0, 0)) (by (with_reducible repeat (first | refine blk_drewN ?_ _ | refine blk_drew ?_ | refine blk_alloc ?_ _)); exact BK509.out) hb)
                have n7_ := Aside0.mk (blk_below (g := gb517) (o := .cells #[.int .i64 t510, .int .i64 t511, .int .i64 t512, .int .i64 t513, .slice Ao36 t514.length co36] 31 (0, 0)) (by (with_reducible repeat (first | refine blk_drewN ?_ _ | refine blk_drew ?_ | refine blk_alloc ?_ _)); exact BK517.out) hb)
                have n8_ := Aside0.mk (blk_below (g := gb529) (o := .cells #[.int .i64 t521, .int .i64 t522, .int .i64 t523, .int .i64 t524, .slice Ao46 t525.length co46] 31 (0, 0)) (by (with_reducible repeat (first | refine blk_drewN ?_ _ | refine blk_drew ?_ | refine blk_alloc ?_ _)); exact BK529.out) hb)
                have n9_ := Aside0.mk (below_step (by repeat (first | (with_reducible first | exact HB.out | apply below_alloc | apply pw_below_drewN | apply below_drew1 | refine below_set ?_ GE489.out | refine below_set ?_ GE509.out | refine below_set ?_ GE517.out | refine below_set ?_ GE529.out) | exact HB.out)) hb)
                clear HO_9
                clear HO_510004
                clear HO_518004
                clear HO_530004
                clear HO537
                clear BK489
                clear BK509
                clear BK517
                clear BK529
                clear HB
                have HO_9 := n0_
                have HO_510004 := n1_
                have HO_518004 := n2_
                have HO_530004 := n3_
                have HO537 := n4_
                have BK489 := n5_
                have BK509 := n6_
                have BK517 := n7_
                have BK529 := n8_
                have HB := n9_
                clear n0_ n1_ n2_ n3_ n4_ n5_ n6_ n7_ n8_ n9_
                (try clear hb)
                (try clear hb2)
                (try clear hk)
                (try clear hi)
                refine hK.out _ _ ⟨(blk_cell BK517.out 0).trans rfl, (blk_cell BK517.out 1).trans rfl, (blk_cell BK517.out 2).trans rfl, (blk_cell BK517.out 3).trans rfl, (blk_cell BK517.out 4).trans rfl, (blk_cell BK489.out 0).trans rfl, (blk_cell BK489.out 1).trans rfl, (blk_cell BK489.out 2).trans rfl, (blk_cell BK489.out 3).trans rfl, (blk_cell BK489.out 4).trans rfl⟩ (fun hHeld => ?_)
                clear hK K
                refine norm_ (a' := ?_) ?_ ?_
                rotate_left
                · show Act.put _ (some 55) _ = _
                  simp only [Act.put, List.setIfInBounds_toArray, List.set_cons_zero, List.set_cons_succ, i64_w, i32_w]
                  rfl
                refine pure_ (i := 4) (N := some 56) (v := ?_) (a' := ?_) #[true, true, true, true, true] rfl rfl (by kernel_rfl) (fun _ _ _ h => h) (Or.inl ⟨by rfl, ?_⟩) ?_ ?_
                rotate_left
                · intro w'
                  go_simp
                  with_reducible rfl
                rotate_left
                · simp only [Act.put, List.setIfInBounds_toArray, List.set_cons_zero, List.set_cons_succ, i64_w, i32_w]
                  rfl
                refine done_ (by kernel_rfl) ?_
                go_upto_region 20 with (first | ((with_reducible refine gate_callee (f := 30) rfl ?_); refine goesL_ (some 59) rfl rfl Try.func30 (by kernel_rfl) rfl #[.slice A1 l1.length c1] rfl (by (try simp only [List.map_toArray, List.map_cons, List.map_nil]); first | done | rfl | (simp only [List.length_drop, List.length_take]; rfl)) ?_; (with_reducible refine (laws_toInt64S.calls kj15 _ _ l1 t539 _ ?side1 ?side2 A69.out).mono ?_); (case side1 => repeat (first | exact (Kd.C_below HR1.out HB.out) | (with_reducible refine Kd.C_alloc ?_ _) | (with_reducible refine Kd.C_drewN ?_ _) | (with_reducible refine Kd.C_drew ?_))); (case side2 => exact HC1.out); rintro e w79 ⟨v540, rfl, ho0, hb⟩; refine ⟨_, rfl, ?_⟩; have n0_ := Aside0.mk (Kd.R_elder' (by (with_reducible repeat (first | apply Kd.R_alloc | apply Kd.R_drewN | apply Kd.R_drew)); exact HO_9.out) (Kd.R_base ho0) hb); have n1_ := Aside0.mk (Kd.R_elder' (by (with_reducible repeat (first | apply Kd.R_alloc | apply Kd.R_drewN | apply Kd.R_drew)); exact HO_510004.out) (Kd.R_base ho0) hb); have n2_ := Aside0.mk (Kd.R_elder' (by (with_reducible repeat (first | apply Kd.R_alloc | apply Kd.R_drewN | apply Kd.R_drew)); exact HO_518004.out) (Kd.R_base ho0) hb); have n3_ := Aside0.mk (Kd.R_elder' (by (with_reducible repeat (first | apply Kd.R_alloc | apply Kd.R_drewN | apply Kd.R_drew)); exact HO_530004.out) (Kd.R_base ho0) hb); have n4_ := Aside0.mk (Kd.R_elder' (by (with_reducible repeat (first | apply Kd.R_alloc | apply Kd.R_drewN | apply Kd.R_drew)); exact HO537.out) (Kd.R_base ho0) hb); have n5_ := Aside0.mk (Kd.R_lower (Kd.R_new' (Kd.R_new' (Kd.R_new' (Kd.R_new' (Kd.R_new' ho0 (Kd.R_lt (by (with_reducible repeat (first | apply Kd.R_alloc | apply Kd.R_drewN | apply Kd.R_drew)); exact HO_9.out))) (Kd.R_lt (by (with_reducible repeat (first | apply Kd.R_alloc | apply Kd.R_drewN | apply Kd.R_drew)); exact HO_510004.out))) (Kd.R_lt (by (with_reducible repeat (first | apply Kd.R_alloc | apply Kd.R_drewN | apply Kd.R_drew)); exact HO_518004.out))) (Kd.R_lt (by (with_reducible repeat (first | apply Kd.R_alloc | apply Kd.R_drewN | apply Kd.R_drew)); exact HO_530004.out))) (Kd.R_lt (by (with_reducible repeat (first | apply Kd.R_alloc | apply Kd.R_drewN | apply Kd.R_drew)); exact HO537.out))) (below_size (by repeat (first | (with_reducible first | exact HB.out | apply below_alloc | apply pw_below_drewN | apply below_drew1 | refine below_set ?_ GE489.out | refine below_set ?_ GE509.out | refine below_set ?_ GE517.out | refine below_set ?_ GE529.out) | exact HB.out)))); have n6_ := Aside0.mk (blk_below (g := gb489) (o := .cells #[.int .i64 a0_0, .int .i64 a0_1, .int .i64 a0_2, .int .i64 a0_3, .slice A0_4 l0_4.length c0_4] 26 (0, 0)) (by (with_reducible repeat (first | refine blk_drewN ?_ _ | refine blk_drew ?_ | refine blk_alloc ?_ _)); exact BK489.out) hb); have n7_ := Aside0.mk (blk_below (g := gb509) (o := .cells #[.int .i64 t501, .int .i64 t502, .int .i64 t503, .int .i64 t504, .slice Ao29 t505.length co29] 31 (0, 0)) (by (with_reducible repeat (first | refine blk_drewN ?_ _ | refine blk_drew ?_ | refine blk_alloc ?_ _)); exact BK509.out) hb); have n8_ := Aside0.mk (blk_below (g := gb517) (o := .cells #[.int .i64 t510, .int .i64 t511, .int .i64 t512, .int .i64 t513, .slice Ao36 t514.length co36] 31 (0, 0)) (by (with_reducible repeat (first | refine blk_drewN ?_ _ | refine blk_drew ?_ | refine blk_alloc ?_ _)); exact BK517.out) hb); have n9_ := Aside0.mk (blk_below (g := gb529) (o := .cells #[.int .i64 t521, .int .i64 t522, .int .i64 t523, .int .i64 t524, .slice Ao46 t525.length co46] 31 (0, 0)) (by (with_reducible repeat (first | refine blk_drewN ?_ _ | refine blk_drew ?_ | refine blk_alloc ?_ _)); exact BK529.out) hb); have n10_ := Aside0.mk (below_step (by repeat (first | (with_reducible first | exact HB.out | apply below_alloc | apply pw_below_drewN | apply below_drew1 | refine below_set ?_ GE489.out | refine below_set ?_ GE509.out | refine below_set ?_ GE517.out | refine below_set ?_ GE529.out) | exact HB.out)) hb); clear HO_9; clear HO_510004; clear HO_518004; clear HO_530004; clear HO537; clear BK489; clear BK509; clear BK517; clear BK529; clear HB; have HO_9 := n0_; have HO_510004 := n1_; have HO_518004 := n2_; have HO_530004 := n3_; have HO537 := n4_; have HO541 := n5_; have BK489 := n6_; have BK509 := n7_; have BK517 := n8_; have BK529 := n9_; have HB := n10_; clear n0_ n1_ n2_ n3_ n4_ n5_ n6_ n7_ n8_ n9_ n10_; (try clear hb); (try clear hb2); (try clear hk); (try clear hi); (try clear ho0); obtain ⟨Ao80, co80, eo80⟩ := Kd.R_slice HO541.out; subst eo80) | ((with_reducible refine gate_callee (f := 17) rfl ?_); refine goesL_ (some 60) rfl rfl Try.func17 (by kernel_rfl) rfl #[.slice Ao39 t518.length co39, .slice Ao80 t539.length co80] rfl (by (try simp only [List.map_toArray, List.map_cons, List.map_nil]); first | done | rfl | (simp only [List.length_drop, List.length_take]; rfl)) ?_; (with_reducible refine (laws_eqInt64S.calls kj15 _ _ t518 _ _ t539 true _ ?side1 ?side2 ?side3 ?side4 A70.out).mono ?_); (case side1 => repeat (first | exact (Kd.R_reads' HO_9.out).2.2 | (with_reducible refine Kd.C_alloc ?_ _) | (with_reducible refine Kd.C_drewN ?_ _) | (with_reducible refine Kd.C_drew ?_))); (case side2 => exact (Kd.R_reads' HO_9.out).2.1); (case side3 => repeat (first | exact (Kd.R_reads' HO541.out).2.2 | (with_reducible refine Kd.C_alloc ?_ _) | (with_reducible refine Kd.C_drewN ?_ _) | (with_reducible refine Kd.C_drew ?_))); (case side4 => exact (Kd.R_reads' HO541.out).2.1); rintro e w' ⟨rfl, ⟨nd, rfl⟩⟩; refine ⟨_, rfl, ?_⟩; have hnb81 := NB517_489.out; have hnc81 := NB489_517.out; have hnb82 := NB517_509.out; have hnc82 := NB509_517.out; have hnb83 := NB517_529.out; have hnc83 := NB529_517.out; have hcz84_0 : w79.cell? ⟨gb517, 0, none⟩ = some (.int .i64 t510) := (blk_cell BK517.out 0).trans rfl; have hcz84_1 : w79.cell? ⟨gb517, 1, none⟩ = some (.int .i64 t511) := (blk_cell BK517.out 1).trans rfl; have hcz84_2 : w79.cell? ⟨gb517, 2, none⟩ = some (.int .i64 t512) := (blk_cell BK517.out 2).trans rfl; have hcz84_3 : w79.cell? ⟨gb517, 3, none⟩ = some (.int .i64 t513) := (blk_cell BK517.out 3).trans rfl; have hcz84_4 : w79.cell? ⟨gb517, 4, none⟩ = some (.slice Ao36 t514.length co36) := (blk_cell BK517.out 4).trans rfl; have hfz84_0 := blk_frozen BK517.out 0; have hfz84_1 := blk_frozen BK517.out 1; have hfz84_2 := blk_frozen BK517.out 2; have hfz84_3 := blk_frozen BK517.out 3; have hfz84_4 := blk_frozen BK517.out 4) | ((with_reducible refine gate_callee (f := 18) rfl ?_); refine goesL_ (some 64) rfl rfl Try.func18 (by kernel_rfl) rfl #[.agg #[.int .i64 t510, .int .i64 t511, .int .i64 t512, .int .i64 t513, .slice Ao36 t514.length co36], .int .i64 1] rfl (by (try simp only [List.map_toArray, List.map_cons, List.map_nil]); first | done | rfl | (simp only [List.length_drop, List.length_take]; rfl)) ?_; (with_reducible refine (laws_markPattern.calls kj15 t510 t511 t512 t513 (fun k_ => some k_ = (.slice Ao36 t514.length co36 : Value).ownBlock) (.slice Ao36 t514.length co36) t514 1 t543 t544 w _ ?side1 ?side2 A72.out).mono ?_); (case side1 => repeat (first | (with_reducible first | exact HB.out | apply below_alloc | apply pw_below_drewN | apply below_drew1 | refine below_set ?_ GE489.out | refine below_set ?_ GE509.out | refine below_set ?_ GE517.out | refine below_set ?_ GE529.out) | exact HB.out)); (case side2 => exact Kd.R_tight rfl HO_518004.out); rintro e w85 ⟨rfl, hy0, hb, hkp⟩; refine ⟨_, rfl, ?_⟩; have n0_ := Aside0.mk (Kd.R_mono (ok' := fun k_ => some k_ ≠ (.slice Ao29 t505.length co29 : Value).ownBlock ∧ some k_ ≠ (.slice Ao36 t514.length co36 : Value).ownBlock ∧ some k_ ≠ (.slice Ao46 t525.length co46 : Value).ownBlock ∧ some k_ ≠ (.slice Ao77 t535.length co77 : Value).ownBlock ∧ some k_ ≠ (.slice Ao80 t539.length co80 : Value).ownBlock) (Kd.R_keptB (HO_9.out) hkp (fun k_ hk_ hs_ => (hk_.1.1.2.1) hs_)) (fun k_ hk_ => ⟨hk_.1.1.1.1, hk_.1.1.1.2.1, hk_.1.1.1.2.2, hk_.1.1.2, hk_.1.2⟩)); have n1_ := Aside0.mk (Kd.R_mono (ok' := fun k_ => some k_ ≠ (.slice Ao39 t518.length co39 : Value).ownBlock ∧ some k_ ≠ (.slice Ao36 t514.length co36 : Value).ownBlock ∧ some k_ ≠ (.slice Ao46 t525.length co46 : Value).ownBlock ∧ some k_ ≠ (.slice Ao77 t535.length co77 : Value).ownBlock ∧ some k_ ≠ (.slice Ao80 t539.length co80 : Value).ownBlock) (Kd.R_keptB (HO_510004.out) hkp (fun k_ hk_ hs_ => (hk_.1.1.2.1) hs_)) (fun k_ hk_ => ⟨hk_.1.1.1.1, hk_.1.1.1.2.1, hk_.1.1.1.2.2, hk_.1.1.2, hk_.1.2⟩)); have n2_ := Aside0.mk (Kd.R_reok rfl hy0 (fun k_ e_ => HO_518004.out.1 k_ e_)); have n3_ := Aside0.mk (Kd.R_mono (ok' := fun k_ => some k_ ≠ (.slice Ao39 t518.length co39 : Value).ownBlock ∧ some k_ ≠ (.slice Ao29 t505.length co29 : Value).ownBlock ∧ some k_ ≠ (.slice Ao36 t514.length co36 : Value).ownBlock ∧ some k_ ≠ (.slice Ao77 t535.length co77 : Value).ownBlock ∧ some k_ ≠ (.slice Ao80 t539.length co80 : Value).ownBlock) (Kd.R_keptB (HO_530004.out) hkp (fun k_ hk_ hs_ => (hk_.1.1.2.2) hs_)) (fun k_ hk_ => ⟨hk_.1.1.1.1, hk_.1.1.1.2.1, hk_.1.1.1.2.2, hk_.1.1.2, hk_.1.2⟩)); have n4_ := Aside0.mk (blk_kept (by (with_reducible repeat (first | refine blk_drewN ?_ _ | refine blk_drew ?_ | refine blk_alloc ?_ _)); exact BK489.out) hkp (fun hs_ => (fun e_ => (Kd.R_ne HO_518004.out BK489.out (by decide)) e_) hs_)); have n5_ := Aside0.mk (blk_kept (by (with_reducible repeat (first | refine blk_drewN ?_ _ | refine blk_drew ?_ | refine blk_alloc ?_ _)); exact BK509.out) hkp (fun hs_ => (fun e_ => (Kd.R_ne HO_518004.out BK509.out (by decide)) e_) hs_)); have n6_ := Aside0.mk (blk_kept (by (with_reducible repeat (first | refine blk_drewN ?_ _ | refine blk_drew ?_ | refine blk_alloc ?_ _)); exact BK517.out) hkp (fun hs_ => (fun e_ => (Kd.R_ne HO_518004.out BK517.out (by decide)) e_) hs_)); have n7_ := Aside0.mk (blk_kept (by (with_reducible repeat (first | refine blk_drewN ?_ _ | refine blk_drew ?_ | refine blk_alloc ?_ _)); exact BK529.out) hkp (fun hs_ => (fun e_ => (Kd.R_ne HO_518004.out BK529.out (by decide)) e_) hs_)); have n8_ := Aside0.mk (Kd.R_mono (ok' := fun k_ => some k_ ≠ (.slice Ao39 t518.length co39 : Value).ownBlock ∧ some k_ ≠ (.slice Ao29 t505.length co29 : Value).ownBlock ∧ some k_ ≠ (.slice Ao36 t514.length co36 : Value).ownBlock ∧ some k_ ≠ (.slice Ao46 t525.length co46 : Value).ownBlock ∧ some k_ ≠ (.slice Ao80 t539.length co80 : Value).ownBlock) (Kd.R_keptB (HO537.out) hkp (fun k_ hk_ hs_ => (hk_.1.1.2) hs_)) (fun k_ hk_ => ⟨hk_.1.1.1.1.1.2, hk_.1.1.1.1.2, hk_.1.1.1.2, hk_.1.1.2, hk_.1.2⟩)); have n9_ := Aside0.mk (Kd.R_mono (ok' := fun k_ => some k_ ≠ (.slice Ao39 t518.length co39 : Value).ownBlock ∧ some k_ ≠ (.slice Ao29 t505.length co29 : Value).ownBlock ∧ some k_ ≠ (.slice Ao36 t514.length co36 : Value).ownBlock ∧ some k_ ≠ (.slice Ao46 t525.length co46 : Value).ownBlock ∧ some k_ ≠ (.slice Ao77 t535.length co77 : Value).ownBlock) (Kd.R_keptB (HO541.out) hkp (fun k_ hk_ hs_ => (hk_.1.1.2) hs_)) (fun k_ hk_ => ⟨hk_.1.1.1.1.1.2, hk_.1.1.1.1.2, hk_.1.1.1.2, hk_.1.1.2, hk_.1.2⟩)); have n10_ := Aside0.mk (hb); clear HO_9; clear HO_510004; clear HO_518004; clear HO_530004; clear BK489; clear BK509; clear BK517; clear BK529; clear HO537; clear HO541; clear HB; have HO_9 := n0_; have HO_510004 := n1_; have HO_518004 := n2_; have HO_530004 := n3_; have BK489 := n4_; have BK509 := n5_; have BK517 := n6_; have BK529 := n7_; have HO537 := n8_; have HO541 := n9_; have HB := n10_; clear n0_ n1_ n2_ n3_ n4_ n5_ n6_ n7_ n8_ n9_ n10_; (try clear hb); (try clear hkp); (try clear hy0)) | ((with_reducible refine gate_callee (f := 19) rfl ?_); refine goesL_ (some 67) rfl rfl Try.func19 (by kernel_rfl) rfl #[.slice Ao39 t518.length co39, .int .i64 t543] rfl (by (try simp only [List.map_toArray, List.map_cons, List.map_nil]); first | done | rfl | (simp only [List.length_drop, List.length_take]; rfl)) ?_; (with_reducible refine (laws_markInt64S.calls kj15 (fun k_ => some k_ = (.slice Ao39 t518.length co39 : Value).ownBlock) (.slice Ao39 t518.length co39) t518 t543 t545 t546 w _ ?side1 ?side2 A73.out).mono ?_); (case side1 => repeat (first | (with_reducible first | exact HB.out | apply below_alloc | apply pw_below_drewN | apply below_drew1 | refine below_set ?_ GE489.out | refine below_set ?_ GE509.out | refine below_set ?_ GE517.out | refine below_set ?_ GE529.out) | exact HB.out)); (case side2 => exact Kd.R_tight rfl HO_9.out); rintro e w86 ⟨rfl, hy0, hb, hkp⟩; refine ⟨_, rfl, ?_⟩; have n0_ := Aside0.mk (Kd.R_reok rfl hy0 (fun k_ e_ => HO_9.out.1 k_ e_)); have n1_ := Aside0.mk (Kd.R_mono (ok' := fun k_ => some k_ ≠ (.slice Ao39 t518.length co39 : Value).ownBlock ∧ some k_ ≠ (.slice Ao36 t514.length co36 : Value).ownBlock ∧ some k_ ≠ (.slice Ao46 t525.length co46 : Value).ownBlock ∧ some k_ ≠ (.slice Ao77 t535.length co77 : Value).ownBlock ∧ some k_ ≠ (.slice Ao80 t539.length co80 : Value).ownBlock) (Kd.R_keptB (HO_510004.out) hkp (fun k_ hk_ hs_ => (hk_.1) hs_)) (fun k_ hk_ => ⟨hk_.1.1, hk_.1.2.1, hk_.1.2.2.1, hk_.1.2.2.2.1, hk_.1.2.2.2.2⟩)); have n2_ := Aside0.mk (Kd.R_mono (ok' := fun k_ => some k_ ≠ (.slice Ao39 t518.length co39 : Value).ownBlock ∧ some k_ ≠ (.slice Ao29 t505.length co29 : Value).ownBlock ∧ some k_ ≠ (.slice Ao46 t525.length co46 : Value).ownBlock ∧ some k_ ≠ (.slice Ao77 t535.length co77 : Value).ownBlock ∧ some k_ ≠ (.slice Ao80 t539.length co80 : Value).ownBlock) (Kd.R_keptB (HO_518004.out) hkp (fun k_ hk_ hs_ => (hk_.1.1.1) hs_)) (fun k_ hk_ => ⟨hk_.1.1.1.1, hk_.1.1.1.2.1, hk_.1.1.1.2.2, hk_.1.1.2, hk_.1.2⟩)); have n3_ := Aside0.mk (Kd.R_mono (ok' := fun k_ => some k_ ≠ (.slice Ao39 t518.length co39 : Value).ownBlock ∧ some k_ ≠ (.slice Ao29 t505.length co29 : Value).ownBlock ∧ some k_ ≠ (.slice Ao36 t514.length co36 : Value).ownBlock ∧ some k_ ≠ (.slice Ao77 t535.length co77 : Value).ownBlock ∧ some k_ ≠ (.slice Ao80 t539.length co80 : Value).ownBlock) (Kd.R_keptB (HO_530004.out) hkp (fun k_ hk_ hs_ => (hk_.1) hs_)) (fun k_ hk_ => ⟨hk_.1.1, hk_.1.2.1, hk_.1.2.2.1, hk_.1.2.2.2.1, hk_.1.2.2.2.2⟩)); have n4_ := Aside0.mk (blk_kept (by (with_reducible repeat (first | refine blk_drewN ?_ _ | refine blk_drew ?_ | refine blk_alloc ?_ _)); exact BK489.out) hkp (fun hs_ => (fun e_ => (Kd.R_ne HO_9.out BK489.out (by decide)) e_) hs_)); have n5_ := Aside0.mk (blk_kept (by (with_reducible repeat (first | refine blk_drewN ?_ _ | refine blk_drew ?_ | refine blk_alloc ?_ _)); exact BK509.out) hkp (fun hs_ => (fun e_ => (Kd.R_ne HO_9.out BK509.out (by decide)) e_) hs_)); have n6_ := Aside0.mk (blk_kept (by (with_reducible repeat (first | refine blk_drewN ?_ _ | refine blk_drew ?_ | refine blk_alloc ?_ _)); exact BK517.out) hkp (fun hs_ => (fun e_ => (Kd.R_ne HO_9.out BK517.out (by decide)) e_) hs_)); have n7_ := Aside0.mk (blk_kept (by (with_reducible repeat (first | refine blk_drewN ?_ _ | refine blk_drew ?_ | refine blk_alloc ?_ _)); exact BK529.out) hkp (fun hs_ => (fun e_ => (Kd.R_ne HO_9.out BK529.out (by decide)) e_) hs_)); have n8_ := Aside0.mk (Kd.R_mono (ok' := fun k_ => some k_ ≠ (.slice Ao39 t518.length co39 : Value).ownBlock ∧ some k_ ≠ (.slice Ao29 t505.length co29 : Value).ownBlock ∧ some k_ ≠ (.slice Ao36 t514.length co36 : Value).ownBlock ∧ some k_ ≠ (.slice Ao46 t525.length co46 : Value).ownBlock ∧ some k_ ≠ (.slice Ao80 t539.length co80 : Value).ownBlock) (Kd.R_keptB (HO537.out) hkp (fun k_ hk_ hs_ => (hk_.1) hs_)) (fun k_ hk_ => ⟨hk_.1.1, hk_.1.2.1, hk_.1.2.2.1, hk_.1.2.2.2.1, hk_.1.2.2.2.2⟩)); have n9_ := Aside0.mk (Kd.R_mono (ok' := fun k_ => some k_ ≠ (.slice Ao39 t518.length co39 : Value).ownBlock ∧ some k_ ≠ (.slice Ao29 t505.length co29 : Value).ownBlock ∧ some k_ ≠ (.slice Ao36 t514.length co36 : Value).ownBlock ∧ some k_ ≠ (.slice Ao46 t525.length co46 : Value).ownBlock ∧ some k_ ≠ (.slice Ao77 t535.length co77 : Value).ownBlock) (Kd.R_keptB (HO541.out) hkp (fun k_ hk_ hs_ => (hk_.1) hs_)) (fun k_ hk_ => ⟨hk_.1.1, hk_.1.2.1, hk_.1.2.2.1, hk_.1.2.2.2.1, hk_.1.2.2.2.2⟩)); have n10_ := Aside0.mk (hb); clear HO_9; clear HO_510004; clear HO_518004; clear HO_530004; clear BK489; clear BK509; clear BK517; clear BK529; clear HO537; clear HO541; clear HB; have HO_9 := n0_; have HO_510004 := n1_; have HO_518004 := n2_; have HO_530004 := n3_; have BK489 := n4_; have BK509 := n5_; have BK517 := n6_; have BK529 := n7_; have HO537 := n8_; have HO541 := n9_; have HB := n10_; clear n0_ n1_ n2_ n3_ n4_ n5_ n6_ n7_ n8_ n9_ n10_; (try clear hb); (try clear hkp); (try clear hy0)))
                (try simp only [Act.put, List.setIfInBounds_toArray, List.set_cons_zero, List.set_cons_succ])
                go_cut [80] (fun v80 wc => ∃ (kq : Nat) (x80_73 : Bool), v80 = .bool x80_73 ∧ Aside0 (laws_FnExactRecolour.j1 kq l1 t508 x80_73 a0_0 a0_1 a0_2 a0_3 l0_4 t501 t502 t503 t504 t505 t521 t522 t523 t524 t525 = some true) ∧ Aside0 (kq ≤ kj15) ∧ Aside0 (Kd.R (Kd.int .i64) 2 wc w.heap.size (fun k_ => some k_ ≠ ((.slice Ao36 t514.length co36) : Value).ownBlock ∧ some k_ ≠ ((.slice Ao46 t525.length co46) : Value).ownBlock) (.slice Ao29 t505.length co29) t505) ∧ Aside0 (Kd.R (Kd.int .i64) 2 wc w.heap.size (fun k_ => some k_ ≠ ((.slice Ao29 t505.length co29) : Value).ownBlock ∧ some k_ ≠ ((.slice Ao46 t525.length co46) : Value).ownBlock) (.slice Ao36 t514.length co36) t544) ∧ Aside0 (Kd.R (Kd.int .i64) 2 wc w.heap.size (fun k_ => some k_ ≠ ((.slice Ao29 t505.length co29) : Value).ownBlock ∧ some k_ ≠ ((.slice Ao36 t514.length co36) : Value).ownBlock) (.slice Ao46 t525.length co46) t525) ∧ Aside0 (wc.heap[gb489]? = some (.cells #[.int .i64 a0_0, .int .i64 a0_1, .int .i64 a0_2, .int .i64 a0_3, (.slice A0_4 l0_4.length c0_4)] 26 (0, 0))) ∧ Aside0 (wc.heap[gb509]? = some (.cells #[.int .i64 t501, .int .i64 t502, .int .i64 t503, .int .i64 t504, (.slice Ao29 t505.length co29)] 31 (0, 0))) ∧ Aside0 (wc.heap[gb517]? = some (.cells #[.int .i64 t510, .int .i64 t511, .int .i64 t512, .int .i64 t513, (.slice Ao36 t514.length co36)] 31 (0, 0))) ∧ Aside0 (wc.heap[gb529]? = some (.cells #[.int .i64 t521, .int .i64 t522, .int .i64 t523, .int .i64 t524, (.slice Ao46 t525.length co46)] 31 (0, 0))) ∧ Aside0 (Below w.heap.size w wc))
                case first =>
                  have H := HC74.out
                  clear HC74
                  by_cases c87 : t545 < 0
                  · rw [if_pos c87] at H
                    have c87b0 : decide (t545 < 0) = true := decide_eq_true c87
                    clear c87
                    (first | rw [c87b0] | (simp only [i64_w, i32_w]; rw [c87b0]) | skip)
                    have H' := Aside0.mk H
                    clear H
                    go_wp2
                    go_meet
                    case rel => exact ⟨_, (true), (by first | rfl | (simp; done) | (simp [*]; done)), H', ⟨by have := HJ15.out; first | omega | exact Nat.le_refl _⟩, ⟨by (with_reducible repeat (first | apply Kd.R_alloc | apply Kd.R_drewN | apply Kd.R_drew)); exact Kd.R_mono HO_510004.out (fun _ hk => ⟨hk.2.1, hk.2.2.1⟩)⟩, ⟨by (with_reducible repeat (first | apply Kd.R_alloc | apply Kd.R_drewN | apply Kd.R_drew)); exact Kd.R_mono HO_518004.out (fun _ hk => ⟨hk.2.1, hk.2.2.1⟩)⟩, ⟨by (with_reducible repeat (first | apply Kd.R_alloc | apply Kd.R_drewN | apply Kd.R_drew)); exact Kd.R_mono HO_530004.out (fun _ hk => ⟨hk.2.1, hk.2.2.1⟩)⟩, ⟨by (with_reducible repeat (first | refine blk_drewN ?_ _ | refine blk_drew ?_ | refine blk_alloc ?_ _)); exact BK489.out⟩, ⟨by (with_reducible repeat (first | refine blk_drewN ?_ _ | refine blk_drew ?_ | refine blk_alloc ?_ _)); exact BK509.out⟩, ⟨by (with_reducible repeat (first | refine blk_drewN ?_ _ | refine blk_drew ?_ | refine blk_alloc ?_ _)); exact BK517.out⟩, ⟨by (with_reducible repeat (first | refine blk_drewN ?_ _ | refine blk_drew ?_ | refine blk_alloc ?_ _)); exact BK529.out⟩, ⟨by repeat (first | (with_reducible first | exact HB.out | apply below_alloc | apply pw_below_drewN | apply below_drew1 | refine below_set ?_ GE489.out | refine below_set ?_ GE509.out | refine below_set ?_ GE517.out | refine below_set ?_ GE529.out) | exact HB.out)⟩⟩
                  · rw [if_neg c87] at H
                    have c87b0 : decide (t545 < 0) = false := decide_eq_false c87
                    clear c87
                    (first | rw [c87b0] | (simp only [i64_w, i32_w]; rw [c87b0]) | skip)
                    replace H := Option.bind_eq_some_iff.mp H
                    obtain ⟨t547, A880, H⟩ := H
                    replace H : (if t547 = true then (laws_FnExactRecolour.j1 kj15 l1 t508 (t528 != t508) a0_0 a0_1 a0_2 a0_3 l0_4 t501 t502 t503 t504 t505 t521 t522 t523 t524 t525) else (laws_FnExactRecolour.j1 kj15 l1 t508 true a0_0 a0_1 a0_2 a0_3 l0_4 t501 t502 t503 t504 t505 t521 t522 t523 t524 t525)) = some true := H
                    have A88 := Aside0.mk A880
                    clear A880
                    by_cases c89 : t547 = true
                    · subst c89
                      have H1 : (laws_FnExactRecolour.j1 kj15 l1 t508 (t528 != t508) a0_0 a0_1 a0_2 a0_3 l0_4 t501 t502 t503 t504 t505 t521 t522 t523 t524 t525) = some true := by rw [if_pos rfl] at H; first | done | exact H
                      clear H
                      have H := H1
                      clear H1
                      have H' := Aside0.mk H
                      clear H
                      have hnb90 := NB529_489.out
                      have hnc90 := NB489_529.out
                      have hnb91 := NB529_509.out
                      have hnc91 := NB509_529.out
                      have hnb92 := NB529_517.out
                      have hnc92 := NB517_529.out
                      have hcz93_0 : w86.cell? ⟨gb529, 0, none⟩ = some (.int .i64 t521) := (blk_cell BK529.out 0).trans rfl
                      have hcz93_1 : w86.cell? ⟨gb529, 1, none⟩ = some (.int .i64 t522) := (blk_cell BK529.out 1).trans rfl
                      have hcz93_2 : w86.cell? ⟨gb529, 2, none⟩ = some (.int .i64 t523) := (blk_cell BK529.out 2).trans rfl
                      have hcz93_3 : w86.cell? ⟨gb529, 3, none⟩ = some (.int .i64 t524) := (blk_cell BK529.out 3).trans rfl
                      have hcz93_4 : w86.cell? ⟨gb529, 4, none⟩ = some (.slice Ao46 t525.length co46) := (blk_cell BK529.out 4).trans rfl
                      have hfz93_0 := blk_frozen BK529.out 0
                      have hfz93_1 := blk_frozen BK529.out 1
                      have hfz93_2 := blk_frozen BK529.out 2
                      have hfz93_3 := blk_frozen BK529.out 3
                      have hfz93_4 := blk_frozen BK529.out 4
                      have hnb94 := NB509_489.out
                      have hnc94 := NB489_509.out
                      have hnb95 := NB509_517.out
                      have hnc95 := NB517_509.out
                      have hcz96_0 : w86.cell? ⟨gb509, 0, none⟩ = some (.int .i64 t501) := (blk_cell BK509.out 0).trans rfl
                      have hcz96_1 : w86.cell? ⟨gb509, 1, none⟩ = some (.int .i64 t502) := (blk_cell BK509.out 1).trans rfl
                      have hcz96_2 : w86.cell? ⟨gb509, 2, none⟩ = some (.int .i64 t503) := (blk_cell BK509.out 2).trans rfl
                      have hcz96_3 : w86.cell? ⟨gb509, 3, none⟩ = some (.int .i64 t504) := (blk_cell BK509.out 3).trans rfl
                      have hcz96_4 : w86.cell? ⟨gb509, 4, none⟩ = some (.slice Ao29 t505.length co29) := (blk_cell BK509.out 4).trans rfl
                      have hfz96_0 := blk_frozen BK509.out 0
                      have hfz96_1 := blk_frozen BK509.out 1
                      have hfz96_2 := blk_frozen BK509.out 2
                      have hfz96_3 := blk_frozen BK509.out 3
                      have hfz96_4 := blk_frozen BK509.out 4
                      go_wp2_with (first | (go_at_call 14; (with_reducible refine (laws_eqPattern.calls kj15 t521 t522 t523 t524 _ _ t525 t501 t502 t503 t504 _ _ t505 true _ ?side1 ?side2 ?side3 ?side4 A88.out).mono ?_); (case side1 => repeat (first | exact (Kd.R_reads' HO_530004.out).2.2 | (with_reducible refine Kd.C_alloc ?_ _) | (with_reducible refine Kd.C_drewN ?_ _) | (with_reducible refine Kd.C_drew ?_))); (case side2 => exact (Kd.R_reads' HO_530004.out).2.1); (case side3 => repeat (first | exact (Kd.R_reads' HO_510004.out).2.2 | (with_reducible refine Kd.C_alloc ?_ _) | (with_reducible refine Kd.C_drewN ?_ _) | (with_reducible refine Kd.C_drew ?_))); (case side4 => exact (Kd.R_reads' HO_510004.out).2.1); rintro e w97 ⟨rfl, hb⟩; have n0_ := Aside0.mk (Kd.R_below (by (with_reducible repeat (first | apply Kd.R_alloc | apply Kd.R_drewN | apply Kd.R_drew)); exact HO_9.out) hb); have n1_ := Aside0.mk (Kd.R_below (by (with_reducible repeat (first | apply Kd.R_alloc | apply Kd.R_drewN | apply Kd.R_drew)); exact HO_510004.out) hb); have n2_ := Aside0.mk (Kd.R_below (by (with_reducible repeat (first | apply Kd.R_alloc | apply Kd.R_drewN | apply Kd.R_drew)); exact HO_518004.out) hb); have n3_ := Aside0.mk (Kd.R_below (by (with_reducible repeat (first | apply Kd.R_alloc | apply Kd.R_drewN | apply Kd.R_drew)); exact HO_530004.out) hb); have n4_ := Aside0.mk (Kd.R_below (by (with_reducible repeat (first | apply Kd.R_alloc | apply Kd.R_drewN | apply Kd.R_drew)); exact HO537.out) hb); have n5_ := Aside0.mk (Kd.R_below (by (with_reducible repeat (first | apply Kd.R_alloc | apply Kd.R_drewN | apply Kd.R_drew)); exact HO541.out) hb); have n6_ := Aside0.mk (blk_below (g := gb489) (o := .cells #[.int .i64 a0_0, .int .i64 a0_1, .int .i64 a0_2, .int .i64 a0_3, .slice A0_4 l0_4.length c0_4] 26 (0, 0)) (by (with_reducible repeat (first | refine blk_drewN ?_ _ | refine blk_drew ?_ | refine blk_alloc ?_ _)); exact BK489.out) hb); have n7_ := Aside0.mk (blk_below (g := gb509) (o := .cells #[.int .i64 t501, .int .i64 t502, .int .i64 t503, .int .i64 t504, .slice Ao29 t505.length co29] 31 (0, 0)) (by (with_reducible repeat (first | refine blk_drewN ?_ _ | refine blk_drew ?_ | refine blk_alloc ?_ _)); exact BK509.out) hb); have n8_ := Aside0.mk (blk_below (g := gb517) (o := .cells #[.int .i64 t510, .int .i64 t511, .int .i64 t512, .int .i64 t513, .slice Ao36 t514.length co36] 31 (0, 0)) (by (with_reducible repeat (first | refine blk_drewN ?_ _ | refine blk_drew ?_ | refine blk_alloc ?_ _)); exact BK517.out) hb); have n9_ := Aside0.mk (blk_below (g := gb529) (o := .cells #[.int .i64 t521, .int .i64 t522, .int .i64 t523, .int .i64 t524, .slice Ao46 t525.length co46] 31 (0, 0)) (by (with_reducible repeat (first | refine blk_drewN ?_ _ | refine blk_drew ?_ | refine blk_alloc ?_ _)); exact BK529.out) hb); have n10_ := Aside0.mk (below_step (by repeat (first | (with_reducible first | exact HB.out | apply below_alloc | apply pw_below_drewN | apply below_drew1 | refine below_set ?_ GE489.out | refine below_set ?_ GE509.out | refine below_set ?_ GE517.out | refine below_set ?_ GE529.out) | exact HB.out)) hb); clear HO_9; clear HO_510004; clear HO_518004; clear HO_530004; clear HO537; clear HO541; clear BK489; clear BK509; clear BK517; clear BK529; clear HB; have HO_9 := n0_; have HO_510004 := n1_; have HO_518004 := n2_; have HO_530004 := n3_; have HO537 := n4_; have HO541 := n5_; have BK489 := n6_; have BK509 := n7_; have BK517 := n8_; have BK529 := n9_; have HB := n10_; clear n0_ n1_ n2_ n3_ n4_ n5_ n6_ n7_ n8_ n9_ n10_; (try clear hb); (try clear hb2); (try clear hk); (try clear hi)))
                      go_meet
                      case rel => exact ⟨_, ((t528 != t508)), (by first | rfl | (simp; done) | (simp [*]; done)), H', ⟨by have := HJ15.out; first | omega | exact Nat.le_refl _⟩, ⟨by (with_reducible repeat (first | apply Kd.R_alloc | apply Kd.R_drewN | apply Kd.R_drew)); exact Kd.R_mono HO_510004.out (fun _ hk => ⟨hk.2.1, hk.2.2.1⟩)⟩, ⟨by (with_reducible repeat (first | apply Kd.R_alloc | apply Kd.R_drewN | apply Kd.R_drew)); exact Kd.R_mono HO_518004.out (fun _ hk => ⟨hk.2.1, hk.2.2.1⟩)⟩, ⟨by (with_reducible repeat (first | apply Kd.R_alloc | apply Kd.R_drewN | apply Kd.R_drew)); exact Kd.R_mono HO_530004.out (fun _ hk => ⟨hk.2.1, hk.2.2.1⟩)⟩, ⟨by (with_reducible repeat (first | refine blk_drewN ?_ _ | refine blk_drew ?_ | refine blk_alloc ?_ _)); exact BK489.out⟩, ⟨by (with_reducible repeat (first | refine blk_drewN ?_ _ | refine blk_drew ?_ | refine blk_alloc ?_ _)); exact BK509.out⟩, ⟨by (with_reducible repeat (first | refine blk_drewN ?_ _ | refine blk_drew ?_ | refine blk_alloc ?_ _)); exact BK517.out⟩, ⟨by (with_reducible repeat (first | refine blk_drewN ?_ _ | refine blk_drew ?_ | refine blk_alloc ?_ _)); exact BK529.out⟩, ⟨by repeat (first | (with_reducible first | exact HB.out | apply below_alloc | apply pw_below_drewN | apply below_drew1 | refine below_set ?_ GE489.out | refine below_set ?_ GE509.out | refine below_set ?_ GE517.out | refine below_set ?_ GE529.out) | exact HB.out)⟩⟩
                    · replace c89 := Bool.eq_false_iff.mpr c89
                      subst c89
                      have H1 : (laws_FnExactRecolour.j1 kj15 l1 t508 true a0_0 a0_1 a0_2 a0_3 l0_4 t501 t502 t503 t504 t505 t521 t522 t523 t524 t525) = some true := by rw [if_neg (show ¬ (false = true) by decide)] at H; first | done | exact H
                      clear H
                      have H := H1
                      clear H1
                      have H' := Aside0.mk H
                      clear H
                      have hnb98 := NB529_489.out
                      have hnc98 := NB489_529.out
                      have hnb99 := NB529_509.out
                      have hnc99 := NB509_529.out
                      have hnb100 := NB529_517.out
                      have hnc100 := NB517_529.out
                      have hcz101_0 : w86.cell? ⟨gb529, 0, none⟩ = some (.int .i64 t521) := (blk_cell BK529.out 0).trans rfl
                      have hcz101_1 : w86.cell? ⟨gb529, 1, none⟩ = some (.int .i64 t522) := (blk_cell BK529.out 1).trans rfl
                      have hcz101_2 : w86.cell? ⟨gb529, 2, none⟩ = some (.int .i64 t523) := (blk_cell BK529.out 2).trans rfl
                      have hcz101_3 : w86.cell? ⟨gb529, 3, none⟩ = some (.int .i64 t524) := (blk_cell BK529.out 3).trans rfl
                      have hcz101_4 : w86.cell? ⟨gb529, 4, none⟩ = some (.slice Ao46 t525.length co46) := (blk_cell BK529.out 4).trans rfl
                      have hfz101_0 := blk_frozen BK529.out 0
                      have hfz101_1 := blk_frozen BK529.out 1
                      have hfz101_2 := blk_frozen BK529.out 2
                      have hfz101_3 := blk_frozen BK529.out 3
                      have hfz101_4 := blk_frozen BK529.out 4
                      have hnb102 := NB509_489.out
                      have hnc102 := NB489_509.out
                      have hnb103 := NB509_517.out
                      have hnc103 := NB517_509.out
                      have hcz104_0 : w86.cell? ⟨gb509, 0, none⟩ = some (.int .i64 t501) := (blk_cell BK509.out 0).trans rfl
                      have hcz104_1 : w86.cell? ⟨gb509, 1, none⟩ = some (.int .i64 t502) := (blk_cell BK509.out 1).trans rfl
                      have hcz104_2 : w86.cell? ⟨gb509, 2, none⟩ = some (.int .i64 t503) := (blk_cell BK509.out 2).trans rfl
                      have hcz104_3 : w86.cell? ⟨gb509, 3, none⟩ = some (.int .i64 t504) := (blk_cell BK509.out 3).trans rfl
                      have hcz104_4 : w86.cell? ⟨gb509, 4, none⟩ = some (.slice Ao29 t505.length co29) := (blk_cell BK509.out 4).trans rfl
                      have hfz104_0 := blk_frozen BK509.out 0
                      have hfz104_1 := blk_frozen BK509.out 1
                      have hfz104_2 := blk_frozen BK509.out 2
                      have hfz104_3 := blk_frozen BK509.out 3
                      have hfz104_4 := blk_frozen BK509.out 4
                      go_wp2_with (first | (go_at_call 14; (with_reducible refine (laws_eqPattern.calls kj15 t521 t522 t523 t524 _ _ t525 t501 t502 t503 t504 _ _ t505 false _ ?side1 ?side2 ?side3 ?side4 A88.out).mono ?_); (case side1 => repeat (first | exact (Kd.R_reads' HO_530004.out).2.2 | (with_reducible refine Kd.C_alloc ?_ _) | (with_reducible refine Kd.C_drewN ?_ _) | (with_reducible refine Kd.C_drew ?_))); (case side2 => exact (Kd.R_reads' HO_530004.out).2.1); (case side3 => repeat (first | exact (Kd.R_reads' HO_510004.out).2.2 | (with_reducible refine Kd.C_alloc ?_ _) | (with_reducible refine Kd.C_drewN ?_ _) | (with_reducible refine Kd.C_drew ?_))); (case side4 => exact (Kd.R_reads' HO_510004.out).2.1); rintro e w105 ⟨rfl, hb⟩; have n0_ := Aside0.mk (Kd.R_below (by (with_reducible repeat (first | apply Kd.R_alloc | apply Kd.R_drewN | apply Kd.R_drew)); exact HO_9.out) hb); have n1_ := Aside0.mk (Kd.R_below (by (with_reducible repeat (first | apply Kd.R_alloc | apply Kd.R_drewN | apply Kd.R_drew)); exact HO_510004.out) hb); have n2_ := Aside0.mk (Kd.R_below (by (with_reducible repeat (first | apply Kd.R_alloc | apply Kd.R_drewN | apply Kd.R_drew)); exact HO_518004.out) hb); have n3_ := Aside0.mk (Kd.R_below (by (with_reducible repeat (first | apply Kd.R_alloc | apply Kd.R_drewN | apply Kd.R_drew)); exact HO_530004.out) hb); have n4_ := Aside0.mk (Kd.R_below (by (with_reducible repeat (first | apply Kd.R_alloc | apply Kd.R_drewN | apply Kd.R_drew)); exact HO537.out) hb); have n5_ := Aside0.mk (Kd.R_below (by (with_reducible repeat (first | apply Kd.R_alloc | apply Kd.R_drewN | apply Kd.R_drew)); exact HO541.out) hb); have n6_ := Aside0.mk (blk_below (g := gb489) (o := .cells #[.int .i64 a0_0, .int .i64 a0_1, .int .i64 a0_2, .int .i64 a0_3, .slice A0_4 l0_4.length c0_4] 26 (0, 0)) (by (with_reducible repeat (first | refine blk_drewN ?_ _ | refine blk_drew ?_ | refine blk_alloc ?_ _)); exact BK489.out) hb); have n7_ := Aside0.mk (blk_below (g := gb509) (o := .cells #[.int .i64 t501, .int .i64 t502, .int .i64 t503, .int .i64 t504, .slice Ao29 t505.length co29] 31 (0, 0)) (by (with_reducible repeat (first | refine blk_drewN ?_ _ | refine blk_drew ?_ | refine blk_alloc ?_ _)); exact BK509.out) hb); have n8_ := Aside0.mk (blk_below (g := gb517) (o := .cells #[.int .i64 t510, .int .i64 t511, .int .i64 t512, .int .i64 t513, .slice Ao36 t514.length co36] 31 (0, 0)) (by (with_reducible repeat (first | refine blk_drewN ?_ _ | refine blk_drew ?_ | refine blk_alloc ?_ _)); exact BK517.out) hb); have n9_ := Aside0.mk (blk_below (g := gb529) (o := .cells #[.int .i64 t521, .int .i64 t522, .int .i64 t523, .int .i64 t524, .slice Ao46 t525.length co46] 31 (0, 0)) (by (with_reducible repeat (first | refine blk_drewN ?_ _ | refine blk_drew ?_ | refine blk_alloc ?_ _)); exact BK529.out) hb); have n10_ := Aside0.mk (below_step (by repeat (first | (with_reducible first | exact HB.out | apply below_alloc | apply pw_below_drewN | apply below_drew1 | refine below_set ?_ GE489.out | refine below_set ?_ GE509.out | refine below_set ?_ GE517.out | refine below_set ?_ GE529.out) | exact HB.out)) hb); clear HO_9; clear HO_510004; clear HO_518004; clear HO_530004; clear HO537; clear HO541; clear BK489; clear BK509; clear BK517; clear BK529; clear HB; have HO_9 := n0_; have HO_510004 := n1_; have HO_518004 := n2_; have HO_530004 := n3_; have HO537 := n4_; have HO541 := n5_; have BK489 := n6_; have BK509 := n7_; have BK517 := n8_; have BK529 := n9_; have HB := n10_; clear n0_ n1_ n2_ n3_ n4_ n5_ n6_ n7_ n8_ n9_ n10_; (try clear hb); (try clear hb2); (try clear hk); (try clear hi)))
                      go_meet
                      case rel => exact ⟨_, (true), (by first | rfl | (simp; done) | (simp [*]; done)), H', ⟨by have := HJ15.out; first | omega | exact Nat.le_refl _⟩, ⟨by (with_reducible repeat (first | apply Kd.R_alloc | apply Kd.R_drewN | apply Kd.R_drew)); exact Kd.R_mono HO_510004.out (fun _ hk => ⟨hk.2.1, hk.2.2.1⟩)⟩, ⟨by (with_reducible repeat (first | apply Kd.R_alloc | apply Kd.R_drewN | apply Kd.R_drew)); exact Kd.R_mono HO_518004.out (fun _ hk => ⟨hk.2.1, hk.2.2.1⟩)⟩, ⟨by (with_reducible repeat (first | apply Kd.R_alloc | apply Kd.R_drewN | apply Kd.R_drew)); exact Kd.R_mono HO_530004.out (fun _ hk => ⟨hk.2.1, hk.2.2.1⟩)⟩, ⟨by (with_reducible repeat (first | refine blk_drewN ?_ _ | refine blk_drew ?_ | refine blk_alloc ?_ _)); exact BK489.out⟩, ⟨by (with_reducible repeat (first | refine blk_drewN ?_ _ | refine blk_drew ?_ | refine blk_alloc ?_ _)); exact BK509.out⟩, ⟨by (with_reducible repeat (first | refine blk_drewN ?_ _ | refine blk_drew ?_ | refine blk_alloc ?_ _)); exact BK517.out⟩, ⟨by (with_reducible repeat (first | refine blk_drewN ?_ _ | refine blk_drew ?_ | refine blk_alloc ?_ _)); exact BK529.out⟩, ⟨by repeat (first | (with_reducible first | exact HB.out | apply below_alloc | apply pw_below_drewN | apply below_drew1 | refine below_set ?_ GE489.out | refine below_set ?_ GE509.out | refine below_set ?_ GE517.out | refine below_set ?_ GE529.out) | exact HB.out)⟩⟩
                case rest =>
                  clear HC74
                  try clear c1
                  try clear c2
                  try clear p2
                  try clear c3
                  try clear c3b0
                  try clear c3b1
                  try clear c4
                  try clear c5
                  try clear c6
                  try clear c6b0
                  try clear c7
                  try clear c8
                  try clear c9
                  try clear c10
                  try clear c12
                  try clear c14
                  try clear c17
                  try clear c18
                  try clear c19
                  try clear c27
                  try clear c29
                  try clear c30
                  try clear c31
                  try clear c33
                  try clear c34
                  try clear c42
                  try clear c43
                  try clear c44
                  try clear c48
                  try clear c49
                  try clear c50
                  try clear c51
                  try clear c53
                  try clear c54
                  try clear c57
                  try clear c58
                  try clear c59
                  try clear c61
                  try clear c62
                  try clear c65
                  try clear c68
                  try clear c71
                  try clear c81
                  try clear c82
                  try clear c83
                  try clear c87
                  try clear c87b0
                  try clear c89
                  try clear c90
                  try clear c91
                  try clear c92
                  try clear c94
                  try clear c95
                  try clear c98
                  try clear c99
                  try clear c100
                  try clear c102
                  try clear c103
                  try clear hcz101_0
                  try clear hcz101_1
                  try clear hcz101_2
                  try clear hcz101_3
                  try clear hcz101_4
                  try clear hcz104_0
                  try clear hcz104_1
                  try clear hcz104_2
                  try clear hcz104_3
                  try clear hcz104_4
                  try clear hcz18_0
                  try clear hcz18_1
                  try clear hcz18_2
                  try clear hcz18_3
                  try clear hcz18_4
                  try clear hcz20_0
                  try clear hcz20_1
                  try clear hcz20_2
                  try clear hcz20_3
                  try clear hcz20_4
                  try clear hcz28_0
                  try clear hcz28_1
                  try clear hcz28_2
                  try clear hcz28_3
                  try clear hcz28_4
                  try clear hcz30_0
                  try clear hcz30_1
                  try clear hcz30_2
                  try clear hcz30_3
                  try clear hcz30_4
                  try clear hcz35_0
                  try clear hcz35_1
                  try clear hcz35_2
                  try clear hcz35_3
                  try clear hcz35_4
                  try clear hcz38_0
                  try clear hcz38_1
                  try clear hcz38_2
                  try clear hcz38_3
                  try clear hcz38_4
                  try clear hcz45_0
                  try clear hcz45_1
                  try clear hcz45_2
                  try clear hcz45_3
                  try clear hcz45_4
                  try clear hcz52_0
                  try clear hcz52_1
                  try clear hcz52_2
                  try clear hcz52_3
                  try clear hcz52_4
                  try clear hcz55_0
                  try clear hcz55_1
                  try clear hcz55_2
                  try clear hcz55_3
                  try clear hcz55_4
                  try clear hcz60_0
                  try clear hcz60_1
                  try clear hcz60_2
                  try clear hcz60_3
                  try clear hcz60_4
                  try clear hcz63_0
                  try clear hcz63_1
                  try clear hcz63_2
                  try clear hcz63_3
                  try clear hcz63_4
                  try clear hcz84_0
                  try clear hcz84_1
                  try clear hcz84_2
                  try clear hcz84_3
                  try clear hcz84_4
                  try clear hcz8_0
                  try clear hcz8_1
                  try clear hcz8_2
                  try clear hcz8_3
                  try clear hcz8_4
                  try clear hcz93_0
                  try clear hcz93_1
                  try clear hcz93_2
                  try clear hcz93_3
                  try clear hcz93_4
                  try clear hcz96_0
                  try clear hcz96_1
                  try clear hcz96_2
                  try clear hcz96_3
                  try clear hcz96_4
                  try clear hfz101_0
                  try clear hfz101_1
                  try clear hfz101_2
                  try clear hfz101_3
                  try clear hfz101_4
                  try clear hfz104_0
                  try clear hfz104_1
                  try clear hfz104_2
                  try clear hfz104_3
                  try clear hfz104_4
                  try clear hfz18_0
                  try clear hfz18_1
                  try clear hfz18_2
                  try clear hfz18_3
                  try clear hfz18_4
                  try clear hfz20_0
                  try clear hfz20_1
                  try clear hfz20_2
                  try clear hfz20_3
                  try clear hfz20_4
                  try clear hfz28_0
                  try clear hfz28_1
                  try clear hfz28_2
                  try clear hfz28_3
                  try clear hfz28_4
                  try clear hfz30_0
                  try clear hfz30_1
                  try clear hfz30_2
                  try clear hfz30_3
                  try clear hfz30_4
                  try clear hfz35_0
                  try clear hfz35_1
                  try clear hfz35_2
                  try clear hfz35_3
                  try clear hfz35_4
                  try clear hfz38_0
                  try clear hfz38_1
                  try clear hfz38_2
                  try clear hfz38_3
                  try clear hfz38_4
                  try clear hfz45_0
                  try clear hfz45_1
                  try clear hfz45_2
                  try clear hfz45_3
                  try clear hfz45_4
                  try clear hfz52_0
                  try clear hfz52_1
                  try clear hfz52_2
                  try clear hfz52_3
                  try clear hfz52_4
                  try clear hfz55_0
                  try clear hfz55_1
                  try clear hfz55_2
                  try clear hfz55_3
                  try clear hfz55_4
                  try clear hfz60_0
                  try clear hfz60_1
                  try clear hfz60_2
                  try clear hfz60_3
                  try clear hfz60_4
                  try clear hfz63_0
                  try clear hfz63_1
                  try clear hfz63_2
                  try clear hfz63_3
                  try clear hfz63_4
                  try clear hfz84_0
                  try clear hfz84_1
                  try clear hfz84_2
                  try clear hfz84_3
                  try clear hfz84_4
                  try clear hfz8_0
                  try clear hfz8_1
                  try clear hfz8_2
                  try clear hfz8_3
                  try clear hfz8_4
                  try clear hfz93_0
                  try clear hfz93_1
                  try clear hfz93_2
                  try clear hfz93_3
                  try clear hfz93_4
                  try clear hfz96_0
                  try clear hfz96_1
                  try clear hfz96_2
                  try clear hfz96_3
                  try clear hfz96_4
                  try clear p2
                  obtain ⟨kq, x80_73, rfl, HA, HJ73, HO_510004, HO_518004, HO_530004, BK489, BK509, BK517, BK529, HB⟩ := hcut
                  have hl518004_73 := (Kd.R_reads' HO_518004.out).1
                  rw [hl518004_73] at HO_518004
                  (try simp only [hl518004_73])
                  (try simp only [hl518004_73] at BK489)
                  (try simp only [hl518004_73] at BK509)
                  (try simp only [hl518004_73] at BK517)
                  (try simp only [hl518004_73] at BK529)
                  (try simp only [hl518004_73] at HO_510004)
                  (try simp only [hl518004_73] at HO_530004)
                  cases kq with
                  | zero => exact absurd HA.out (by simp [laws_FnExactRecolour.j1])
                  | succ kj73 =>
                    have H := HA.out
                    clear HA
                    simp only [laws_FnExactRecolour.j1] at H
                    by_cases c106 : x80_73 = true
                    · subst c106
                      have H1 : (some false) = some true := by rw [if_pos rfl] at H; first | done | exact H
                      clear H
                      have H := H1
                      clear H1
                      exact absurd H (by simp)
                    · replace c106 := Bool.eq_false_iff.mpr c106
                      subst c106
                      have H1 : ((laws_markPattern.f kj73 t521 t522 t523 t524 t525 1).bind fun bt548 => ((laws_heldPattern.f kj73 t521 t522 t523 t524 bt548.2 1).bind fun t550 => (if t550 < 0 then (some false) else (if t550 = bt548.1 then ((laws_toPattern.f kj73 a0_0 a0_1 a0_2 a0_3 l0_4).bind fun bt551 => ((laws_toInt64S.f kj73 l1).bind fun t558 => ((impl_Recolour.f kj73 bt551.1 bt551.2.1 bt551.2.2.1 bt551.2.2.2.1 bt551.2.2.2.2 t558).bind fun bt561 => ((laws_eqPattern.f kj73 bt561.1 bt561.2.1 bt561.2.2.1 bt561.2.2.2.1 bt561.2.2.2.2.1 t501 t502 t503 t504 t505).bind fun t570 => (if t570 = true then (laws_FnExactRecolour.j2 kj73 bt548.1 (bt561.2.2.2.2.2 != t508) t521 t522 t523 t524 bt548.2) else (laws_FnExactRecolour.j2 kj73 bt548.1 true t521 t522 t523 t524 bt548.2)))))) else (some false))))) = some true := by rw [if_neg (show ¬ (false = true) by decide)] at H; first | done | exact H
                      clear H
                      have H := H1
                      clear H1
                      replace H := Option.bind_eq_some_iff.mp H
                      obtain ⟨⟨t548, t549⟩, A1070, H⟩ := H
                      replace H : ((laws_heldPattern.f kj73 t521 t522 t523 t524 t549 1).bind fun t550 => (if t550 < 0 then (some false) else (if t550 = t548 then ((laws_toPattern.f kj73 a0_0 a0_1 a0_2 a0_3 l0_4).bind fun bt551 => ((laws_toInt64S.f kj73 l1).bind fun t558 => ((impl_Recolour.f kj73 bt551.1 bt551.2.1 bt551.2.2.1 bt551.2.2.2.1 bt551.2.2.2.2 t558).bind fun bt561 => ((laws_eqPattern.f kj73 bt561.1 bt561.2.1 bt561.2.2.1 bt561.2.2.2.1 bt561.2.2.2.2.1 t501 t502 t503 t504 t505).bind fun t570 => (if t570 = true then (laws_FnExactRecolour.j2 kj73 t548 (bt561.2.2.2.2.2 != t508) t521 t522 t523 t524 t549) else (laws_FnExactRecolour.j2 kj73 t548 true t521 t522 t523 t524 t549)))))) else (some false)))) = some true := H
                      have A107 := Aside0.mk A1070
                      clear A1070
                      replace H := Option.bind_eq_some_iff.mp H
                      obtain ⟨t550, A1080, H⟩ := H
                      replace H : (if t550 < 0 then (some false) else (if t550 = t548 then ((laws_toPattern.f kj73 a0_0 a0_1 a0_2 a0_3 l0_4).bind fun bt551 => ((laws_toInt64S.f kj73 l1).bind fun t558 => ((impl_Recolour.f kj73 bt551.1 bt551.2.1 bt551.2.2.1 bt551.2.2.2.1 bt551.2.2.2.2 t558).bind fun bt561 => ((laws_eqPattern.f kj73 bt561.1 bt561.2.1 bt561.2.2.1 bt561.2.2.2.1 bt561.2.2.2.2.1 t501 t502 t503 t504 t505).bind fun t570 => (if t570 = true then (laws_FnExactRecolour.j2 kj73 t548 (bt561.2.2.2.2.2 != t508) t521 t522 t523 t524 t549) else (laws_FnExactRecolour.j2 kj73 t548 true t521 t522 t523 t524 t549)))))) else (some false))) = some true := H
                      have A108 := Aside0.mk A1080
                      clear A1080
                      by_cases c109 : t550 < 0
                      · rw [if_pos c109] at H
                        have c109b0 : decide (t550 < 0) = true := decide_eq_true c109
                        clear c109
                        exact absurd H (by simp)
                      · rw [if_neg c109] at H
                        have c109b0 : decide (t550 < 0) = false := decide_eq_false c109
                        clear c109
                        by_cases c110 : t550 = t548
                        · rw [if_pos c110] at H
                          have c110b0 : (t550 == t548) = true := beq_iff_eq.mpr c110
                          have c110b1 : (t550 != t548) = false := bne_eq_false_iff_eq.mpr c110
                          clear c110
                          replace H := Option.bind_eq_some_iff.mp H
                          obtain ⟨⟨t551, t552, t553, t554, t555⟩, A1110, H⟩ := H
                          replace H : ((laws_toInt64S.f kj73 l1).bind fun t558 => ((impl_Recolour.f kj73 t551 t552 t553 t554 t555 t558).bind fun bt561 => ((laws_eqPattern.f kj73 bt561.1 bt561.2.1 bt561.2.2.1 bt561.2.2.2.1 bt561.2.2.2.2.1 t501 t502 t503 t504 t505).bind fun t570 => (if t570 = true then (laws_FnExactRecolour.j2 kj73 t548 (bt561.2.2.2.2.2 != t508) t521 t522 t523 t524 t549) else (laws_FnExactRecolour.j2 kj73 t548 true t521 t522 t523 t524 t549))))) = some true := H
                          have A111 := Aside0.mk A1110
                          clear A1110
                          replace H := Option.bind_eq_some_iff.mp H
                          obtain ⟨t558, A1120, H⟩ := H
                          replace H : ((impl_Recolour.f kj73 t551 t552 t553 t554 t555 t558).bind fun bt561 => ((laws_eqPattern.f kj73 bt561.1 bt561.2.1 bt561.2.2.1 bt561.2.2.2.1 bt561.2.2.2.2.1 t501 t502 t503 t504 t505).bind fun t570 => (if t570 = true then (laws_FnExactRecolour.j2 kj73 t548 (bt561.2.2.2.2.2 != t508) t521 t522 t523 t524 t549) else (laws_FnExactRecolour.j2 kj73 t548 true t521 t522 t523 t524 t549)))) = some true := H
                          have A112 := Aside0.mk A1120
                          clear A1120
                          replace H := Option.bind_eq_some_iff.mp H
                          obtain ⟨⟨t561, t562, t563, t564, t565, t568⟩, A1130, H⟩ := H
                          replace H : ((laws_eqPattern.f kj73 t561 t562 t563 t564 t565 t501 t502 t503 t504 t505).bind fun t570 => (if t570 = true then (laws_FnExactRecolour.j2 kj73 t548 (t568 != t508) t521 t522 t523 t524 t549) else (laws_FnExactRecolour.j2 kj73 t548 true t521 t522 t523 t524 t549))) = some true := H
                          have A113 := Aside0.mk A1130
                          clear A1130
                          have HC114 := Aside0.mk H
                          clear H
                          have hnb115 := NB529_489.out
                          have hnc115 := NB489_529.out
                          have hnb116 := NB529_509.out
                          have hnc116 := NB509_529.out
                          have hnb117 := NB529_517.out
                          have hnc117 := NB517_529.out
                          have hcz118_0 : wc.cell? ⟨gb529, 0, none⟩ = some (.int .i64 t521) := (blk_cell BK529.out 0).trans rfl
                          have hcz118_1 : wc.cell? ⟨gb529, 1, none⟩ = some (.int .i64 t522) := (blk_cell BK529.out 1).trans rfl
                          have hcz118_2 : wc.cell? ⟨gb529, 2, none⟩ = some (.int .i64 t523) := (blk_cell BK529.out 2).trans rfl
                          have hcz118_3 : wc.cell? ⟨gb529, 3, none⟩ = some (.int .i64 t524) := (blk_cell BK529.out 3).trans rfl
                          have hcz118_4 : wc.cell? ⟨gb529, 4, none⟩ = some (.slice Ao46 t525.length co46) := (blk_cell BK529.out 4).trans rfl
                          have hfz118_0 := blk_frozen BK529.out 0
                          have hfz118_1 := blk_frozen BK529.out 1
                          have hfz118_2 := blk_frozen BK529.out 2
                          have hfz118_3 := blk_frozen BK529.out 3
                          have hfz118_4 := blk_frozen BK529.out 4
                          go_upto_region 31 with (first | ((with_reducible refine gate_callee (f := 18) rfl ?_); refine goesL_ (some 83) rfl rfl Try.func18 (by kernel_rfl) rfl #[.agg #[.int .i64 t521, .int .i64 t522, .int .i64 t523, .int .i64 t524, .slice Ao46 t525.length co46], .int .i64 1] rfl (by (try simp only [List.map_toArray, List.map_cons, List.map_nil]); first | done | rfl | (simp only [List.length_drop, List.length_take]; rfl)) ?_; (with_reducible refine (laws_markPattern.calls kj73 t521 t522 t523 t524 (fun k_ => some k_ = (.slice Ao46 t525.length co46 : Value).ownBlock) (.slice Ao46 t525.length co46) t525 1 t548 t549 w _ ?side1 ?side2 A107.out).mono ?_); (case side1 => repeat (first | (with_reducible first | exact HB.out | apply below_alloc | apply pw_below_drewN | apply below_drew1 | refine below_set ?_ GE489.out | refine below_set ?_ GE509.out | refine below_set ?_ GE517.out | refine below_set ?_ GE529.out) | exact HB.out)); (case side2 => exact Kd.R_tight rfl HO_530004.out); rintro e w119 ⟨rfl, hy0, hb, hkp⟩; refine ⟨_, rfl, ?_⟩; have n0_ := Aside0.mk (Kd.R_mono (ok' := fun k_ => some k_ ≠ (.slice Ao36 t544.length co36 : Value).ownBlock ∧ some k_ ≠ (.slice Ao46 t525.length co46 : Value).ownBlock) (Kd.R_keptB (HO_510004.out) hkp (fun k_ hk_ hs_ => (hk_.2) hs_)) (fun k_ hk_ => ⟨hk_.1.1, hk_.1.2⟩)); have n1_ := Aside0.mk (Kd.R_mono (ok' := fun k_ => some k_ ≠ (.slice Ao29 t505.length co29 : Value).ownBlock ∧ some k_ ≠ (.slice Ao46 t525.length co46 : Value).ownBlock) (Kd.R_keptB (HO_518004.out) hkp (fun k_ hk_ hs_ => (hk_.2) hs_)) (fun k_ hk_ => ⟨hk_.1.1, hk_.1.2⟩)); have n2_ := Aside0.mk (Kd.R_reok rfl hy0 (fun k_ e_ => HO_530004.out.1 k_ e_)); have n3_ := Aside0.mk (blk_kept (by (with_reducible repeat (first | refine blk_drewN ?_ _ | refine blk_drew ?_ | refine blk_alloc ?_ _)); exact BK489.out) hkp (fun hs_ => (fun e_ => (Kd.R_ne HO_530004.out BK489.out (by decide)) e_) hs_)); have n4_ := Aside0.mk (blk_kept (by (with_reducible repeat (first | refine blk_drewN ?_ _ | refine blk_drew ?_ | refine blk_alloc ?_ _)); exact BK509.out) hkp (fun hs_ => (fun e_ => (Kd.R_ne HO_530004.out BK509.out (by decide)) e_) hs_)); have n5_ := Aside0.mk (blk_kept (by (with_reducible repeat (first | refine blk_drewN ?_ _ | refine blk_drew ?_ | refine blk_alloc ?_ _)); exact BK517.out) hkp (fun hs_ => (fun e_ => (Kd.R_ne HO_530004.out BK517.out (by decide)) e_) hs_)); have n6_ := Aside0.mk (blk_kept (by (with_reducible repeat (first | refine blk_drewN ?_ _ | refine blk_drew ?_ | refine blk_alloc ?_ _)); exact BK529.out) hkp (fun hs_ => (fun e_ => (Kd.R_ne HO_530004.out BK529.out (by decide)) e_) hs_)); have n7_ := Aside0.mk (hb); clear HO_510004; clear HO_518004; clear HO_530004; clear BK489; clear BK509; clear BK517; clear BK529; clear HB; have HO_510004 := n0_; have HO_518004 := n1_; have HO_530004 := n2_; have BK489 := n3_; have BK509 := n4_; have BK517 := n5_; have BK529 := n6_; have HB := n7_; clear n0_ n1_ n2_ n3_ n4_ n5_ n6_ n7_; (try clear hb); (try clear hkp); (try clear hy0); have hcz120_0 : w119.cell? ⟨gb529, 0, none⟩ = some (.int .i64 t521) := (blk_cell BK529.out 0).trans rfl; have hcz120_1 : w119.cell? ⟨gb529, 1, none⟩ = some (.int .i64 t522) := (blk_cell BK529.out 1).trans rfl; have hcz120_2 : w119.cell? ⟨gb529, 2, none⟩ = some (.int .i64 t523) := (blk_cell BK529.out 2).trans rfl; have hcz120_3 : w119.cell? ⟨gb529, 3, none⟩ = some (.int .i64 t524) := (blk_cell BK529.out 3).trans rfl; have hcz120_4 : w119.cell? ⟨gb529, 4, none⟩ = some (.slice Ao46 t525.length co46) := (blk_cell BK529.out 4).trans rfl; have hfz120_0 := blk_frozen BK529.out 0; have hfz120_1 := blk_frozen BK529.out 1; have hfz120_2 := blk_frozen BK529.out 2; have hfz120_3 := blk_frozen BK529.out 3; have hfz120_4 := blk_frozen BK529.out 4) | ((with_reducible refine gate_callee (f := 32) rfl ?_); refine goesL_ (some 86) rfl rfl Try.func32 (by kernel_rfl) rfl #[.agg #[.int .i64 t521, .int .i64 t522, .int .i64 t523, .int .i64 t524, .slice Ao46 t549.length co46], .int .i64 1] rfl (by (try simp only [List.map_toArray, List.map_cons, List.map_nil]); first | done | (rw [show t549.length = t525.length from (Kd.R_reads' HO_530004.out).1.symm] <;> rfl) | rfl | (simp only [List.length_drop, List.length_take]; rfl)) ?_; (with_reducible refine (laws_heldPattern.calls kj73 t521 t522 t523 t524 _ _ t549 1 t550 _ ?side1 ?side2 A108.out).mono ?_); (case side1 => repeat (first | exact (Kd.R_reads' HO_530004.out).2.2 | (with_reducible refine Kd.C_alloc ?_ _) | (with_reducible refine Kd.C_drewN ?_ _) | (with_reducible refine Kd.C_drew ?_))); (case side2 => rw [show t549.length = t525.length from (Kd.R_reads' HO_530004.out).1.symm]; exact (Kd.R_reads' HO_530004.out).2.1); rintro e w121 ⟨rfl, hb⟩; refine ⟨_, rfl, ?_⟩; have n0_ := Aside0.mk (Kd.R_below (by (with_reducible repeat (first | apply Kd.R_alloc | apply Kd.R_drewN | apply Kd.R_drew)); exact HO_510004.out) hb); have n1_ := Aside0.mk (Kd.R_below (by (with_reducible repeat (first | apply Kd.R_alloc | apply Kd.R_drewN | apply Kd.R_drew)); exact HO_518004.out) hb); have n2_ := Aside0.mk (Kd.R_below (by (with_reducible repeat (first | apply Kd.R_alloc | apply Kd.R_drewN | apply Kd.R_drew)); exact HO_530004.out) hb); have n3_ := Aside0.mk (blk_below (g := gb489) (o := .cells #[.int .i64 a0_0, .int .i64 a0_1, .int .i64 a0_2, .int .i64 a0_3, .slice A0_4 l0_4.length c0_4] 26 (0, 0)) (by (with_reducible repeat (first | refine blk_drewN ?_ _ | refine blk_drew ?_ | refine blk_alloc ?_ _)); exact BK489.out) hb); have n4_ := Aside0.mk (blk_below (g := gb509) (o := .cells #[.int .i64 t501, .int .i64 t502, .int .i64 t503, .int .i64 t504, .slice Ao29 t505.length co29] 31 (0, 0)) (by (with_reducible repeat (first | refine blk_drewN ?_ _ | refine blk_drew ?_ | refine blk_alloc ?_ _)); exact BK509.out) hb); have n5_ := Aside0.mk (blk_below (g := gb517) (o := .cells #[.int .i64 t510, .int .i64 t511, .int .i64 t512, .int .i64 t513, .slice Ao36 t544.length co36] 31 (0, 0)) (by (with_reducible repeat (first | refine blk_drewN ?_ _ | refine blk_drew ?_ | refine blk_alloc ?_ _)); exact BK517.out) hb); have n6_ := Aside0.mk (blk_below (g := gb529) (o := .cells #[.int .i64 t521, .int .i64 t522, .int .i64 t523, .int .i64 t524, .slice Ao46 t525.length co46] 31 (0, 0)) (by (with_reducible repeat (first | refine blk_drewN ?_ _ | refine blk_drew ?_ | refine blk_alloc ?_ _)); exact BK529.out) hb); have n7_ := Aside0.mk (below_step (by repeat (first | (with_reducible first | exact HB.out | apply below_alloc | apply pw_below_drewN | apply below_drew1 | refine below_set ?_ GE489.out | refine below_set ?_ GE509.out | refine below_set ?_ GE517.out | refine below_set ?_ GE529.out) | exact HB.out)) hb); clear HO_510004; clear HO_518004; clear HO_530004; clear BK489; clear BK509; clear BK517; clear BK529; clear HB; have HO_510004 := n0_; have HO_518004 := n1_; have HO_530004 := n2_; have BK489 := n3_; have BK509 := n4_; have BK517 := n5_; have BK529 := n6_; have HB := n7_; clear n0_ n1_ n2_ n3_ n4_ n5_ n6_ n7_; (try clear hb); (try clear hb2); (try clear hk); (try clear hi); have hnb122 := NB489_509.out; have hnc122 := NB509_489.out; have hnb123 := NB489_517.out; have hnc123 := NB517_489.out; have hcz124_0 : w121.cell? ⟨gb489, 0, none⟩ = some (.int .i64 a0_0) := (blk_cell BK489.out 0).trans rfl; have hcz124_1 : w121.cell? ⟨gb489, 1, none⟩ = some (.int .i64 a0_1) := (blk_cell BK489.out 1).trans rfl; have hcz124_2 : w121.cell? ⟨gb489, 2, none⟩ = some (.int .i64 a0_2) := (blk_cell BK489.out 2).trans rfl; have hcz124_3 : w121.cell? ⟨gb489, 3, none⟩ = some (.int .i64 a0_3) := (blk_cell BK489.out 3).trans rfl; have hcz124_4 : w121.cell? ⟨gb489, 4, none⟩ = some (.slice A0_4 l0_4.length c0_4) := (blk_cell BK489.out 4).trans rfl; have hfz124_0 := blk_frozen BK489.out 0; have hfz124_1 := blk_frozen BK489.out 1; have hfz124_2 := blk_frozen BK489.out 2; have hfz124_3 := blk_frozen BK489.out 3; have hfz124_4 := blk_frozen BK489.out 4) | ((with_reducible refine gate_callee (f := 12) rfl ?_); refine goesL_ (some 94) rfl rfl Try.func12 (by kernel_rfl) rfl #[.agg #[.int .i64 a0_0, .int .i64 a0_1, .int .i64 a0_2, .int .i64 a0_3, .slice A0_4 l0_4.length c0_4]] rfl (by (try simp only [List.map_toArray, List.map_cons, List.map_nil]); first | done | rfl | (simp only [List.length_drop, List.length_take]; rfl)) ?_; (with_reducible refine (laws_toPattern.calls kj73 a0_0 a0_1 a0_2 a0_3 _ _ l0_4 t551 t552 t553 t554 t555 _ ?side1 ?side2 A111.out).mono ?_); (case side1 => repeat (first | exact (Kd.C_below HR0_4.out HB.out) | (with_reducible refine Kd.C_alloc ?_ _) | (with_reducible refine Kd.C_drewN ?_ _) | (with_reducible refine Kd.C_drew ?_))); (case side2 => exact HC0_4.out); rintro e w125 ⟨v556, rfl, ho0, hb⟩; refine ⟨_, rfl, ?_⟩; have n0_ := Aside0.mk (Kd.R_elder' (by (with_reducible repeat (first | apply Kd.R_alloc | apply Kd.R_drewN | apply Kd.R_drew)); exact HO_510004.out) (Kd.R_base ho0) hb); have n1_ := Aside0.mk (Kd.R_elder' (by (with_reducible repeat (first | apply Kd.R_alloc | apply Kd.R_drewN | apply Kd.R_drew)); exact HO_518004.out) (Kd.R_base ho0) hb); have n2_ := Aside0.mk (Kd.R_elder' (by (with_reducible repeat (first | apply Kd.R_alloc | apply Kd.R_drewN | apply Kd.R_drew)); exact HO_530004.out) (Kd.R_base ho0) hb); have n3_ := Aside0.mk (Kd.R_lower (Kd.R_new' (Kd.R_new' (Kd.R_new' ho0 (Kd.R_lt (by (with_reducible repeat (first | apply Kd.R_alloc | apply Kd.R_drewN | apply Kd.R_drew)); exact HO_510004.out))) (Kd.R_lt (by (with_reducible repeat (first | apply Kd.R_alloc | apply Kd.R_drewN | apply Kd.R_drew)); exact HO_518004.out))) (Kd.R_lt (by (with_reducible repeat (first | apply Kd.R_alloc | apply Kd.R_drewN | apply Kd.R_drew)); exact HO_530004.out))) (below_size (by repeat (first | (with_reducible first | exact HB.out | apply below_alloc | apply pw_below_drewN | apply below_drew1 | refine below_set ?_ GE489.out | refine below_set ?_ GE509.out | refine below_set ?_ GE517.out | refine below_set ?_ GE529.out) | exact HB.out)))); have n4_ := Aside0.mk (blk_below (g := gb489) (o := .cells #[.int .i64 a0_0, .int .i64 a0_1, .int .i64 a0_2, .int .i64 a0_3, .slice A0_4 l0_4.length c0_4] 26 (0, 0)) (by (with_reducible repeat (first | refine blk_drewN ?_ _ | refine blk_drew ?_ | refine blk_alloc ?_ _)); exact BK489.out) hb); have n5_ := Aside0.mk (blk_below (g := gb509) (o := .cells #[.int .i64 t501, .int .i64 t502, .int .i64 t503, .int .i64 t504, .slice Ao29 t505.length co29] 31 (0, 0)) (by (with_reducible repeat (first | refine blk_drewN ?_ _ | refine blk_drew ?_ | refine blk_alloc ?_ _)); exact BK509.out) hb); have n6_ := Aside0.mk (blk_below (g := gb517) (o := .cells #[.int .i64 t510, .int .i64 t511, .int .i64 t512, .int .i64 t513, .slice Ao36 t544.length co36] 31 (0, 0)) (by (with_reducible repeat (first | refine blk_drewN ?_ _ | refine blk_drew ?_ | refine blk_alloc ?_ _)); exact BK517.out) hb); have n7_ := Aside0.mk (blk_below (g := gb529) (o := .cells #[.int .i64 t521, .int .i64 t522, .int .i64 t523, .int .i64 t524, .slice Ao46 t525.length co46] 31 (0, 0)) (by (with_reducible repeat (first | refine blk_drewN ?_ _ | refine blk_drew ?_ | refine blk_alloc ?_ _)); exact BK529.out) hb); have n8_ := Aside0.mk (below_step (by repeat (first | (with_reducible first | exact HB.out | apply below_alloc | apply pw_below_drewN | apply below_drew1 | refine below_set ?_ GE489.out | refine below_set ?_ GE509.out | refine below_set ?_ GE517.out | refine below_set ?_ GE529.out) | exact HB.out)) hb); clear HO_510004; clear HO_518004; clear HO_530004; clear BK489; clear BK509; clear BK517; clear BK529; clear HB; have HO_510004 := n0_; have HO_518004 := n1_; have HO_530004 := n2_; have HO557 := n3_; have BK489 := n4_; have BK509 := n5_; have BK517 := n6_; have BK529 := n7_; have HB := n8_; clear n0_ n1_ n2_ n3_ n4_ n5_ n6_ n7_ n8_; (try clear hb); (try clear hb2); (try clear hk); (try clear hi); (try clear ho0)) | ((with_reducible refine gate_callee (f := 30) rfl ?_); refine goesL_ (some 96) rfl rfl Try.func30 (by kernel_rfl) rfl #[.slice A1 l1.length c1] rfl (by (try simp only [List.map_toArray, List.map_cons, List.map_nil]); first | done | rfl | (simp only [List.length_drop, List.length_take]; rfl)) ?_; (with_reducible refine (laws_toInt64S.calls kj73 _ _ l1 t558 _ ?side1 ?side2 A112.out).mono ?_); (case side1 => repeat (first | exact (Kd.C_below HR1.out HB.out) | (with_reducible refine Kd.C_alloc ?_ _) | (with_reducible refine Kd.C_drewN ?_ _) | (with_reducible refine Kd.C_drew ?_))); (case side2 => exact HC1.out); rintro e w126 ⟨v559, rfl, ho0, hb⟩; refine ⟨_, rfl, ?_⟩; have n0_ := Aside0.mk (Kd.R_elder' (by (with_reducible repeat (first | apply Kd.R_alloc | apply Kd.R_drewN | apply Kd.R_drew)); exact HO_510004.out) (Kd.R_base ho0) hb); have n1_ := Aside0.mk (Kd.R_elder' (by (with_reducible repeat (first | apply Kd.R_alloc | apply Kd.R_drewN | apply Kd.R_drew)); exact HO_518004.out) (Kd.R_base ho0) hb); have n2_ := Aside0.mk (Kd.R_elder' (by (with_reducible repeat (first | apply Kd.R_alloc | apply Kd.R_drewN | apply Kd.R_drew)); exact HO_530004.out) (Kd.R_base ho0) hb); have n3_ := Aside0.mk (Kd.R_elder' (by (with_reducible repeat (first | apply Kd.R_alloc | apply Kd.R_drewN | apply Kd.R_drew)); exact HO557.out) (Kd.R_base ho0) hb); have n4_ := Aside0.mk (Kd.R_lower (Kd.R_new' (Kd.R_new' (Kd.R_new' (Kd.R_new' ho0 (Kd.R_lt (by (with_reducible repeat (first | apply Kd.R_alloc | apply Kd.R_drewN | apply Kd.R_drew)); exact HO_510004.out))) (Kd.R_lt (by (with_reducible repeat (first | apply Kd.R_alloc | apply Kd.R_drewN | apply Kd.R_drew)); exact HO_518004.out))) (Kd.R_lt (by (with_reducible repeat (first | apply Kd.R_alloc | apply Kd.R_drewN | apply Kd.R_drew)); exact HO_530004.out))) (Kd.R_lt (by (with_reducible repeat (first | apply Kd.R_alloc | apply Kd.R_drewN | apply Kd.R_drew)); exact HO557.out))) (below_size (by repeat (first | (with_reducible first | exact HB.out | apply below_alloc | apply pw_below_drewN | apply below_drew1 | refine below_set ?_ GE489.out | refine below_set ?_ GE509.out | refine below_set ?_ GE517.out | refine below_set ?_ GE529.out) | exact HB.out)))); have n5_ := Aside0.mk (blk_below (g := gb489) (o := .cells #[.int .i64 a0_0, .int .i64 a0_1, .int .i64 a0_2, .int .i64 a0_3, .slice A0_4 l0_4.length c0_4] 26 (0, 0)) (by (with_reducible repeat (first | refine blk_drewN ?_ _ | refine blk_drew ?_ | refine blk_alloc ?_ _)); exact BK489.out) hb); have n6_ := Aside0.mk (blk_below (g := gb509) (o := .cells #[.int .i64 t501, .int .i64 t502, .int .i64 t503, .int .i64 t504, .slice Ao29 t505.length co29] 31 (0, 0)) (by (with_reducible repeat (first | refine blk_drewN ?_ _ | refine blk_drew ?_ | refine blk_alloc ?_ _)); exact BK509.out) hb); have n7_ := Aside0.mk (blk_below (g := gb517) (o := .cells #[.int .i64 t510, .int .i64 t511, .int .i64 t512, .int .i64 t513, .slice Ao36 t544.length co36] 31 (0, 0)) (by (with_reducible repeat (first | refine blk_drewN ?_ _ | refine blk_drew ?_ | refine blk_alloc ?_ _)); exact BK517.out) hb); have n8_ := Aside0.mk (blk_below (g := gb529) (o := .cells #[.int .i64 t521, .int .i64 t522, .int .i64 t523, .int .i64 t524, .slice Ao46 t525.length co46] 31 (0, 0)) (by (with_reducible repeat (first | refine blk_drewN ?_ _ | refine blk_drew ?_ | refine blk_alloc ?_ _)); exact BK529.out) hb); have n9_ := Aside0.mk (below_step (by repeat (first | (with_reducible first | exact HB.out | apply below_alloc | apply pw_below_drewN | apply below_drew1 | refine below_set ?_ GE489.out | refine below_set ?_ GE509.out | refine below_set ?_ GE517.out | refine below_set ?_ GE529.out) | exact HB.out)) hb); clear HO_510004; clear HO_518004; clear HO_530004; clear HO557; clear BK489; clear BK509; clear BK517; clear BK529; clear HB; have HO_510004 := n0_; have HO_518004 := n1_; have HO_530004 := n2_; have HO557 := n3_; have HO560 := n4_; have BK489 := n5_; have BK509 := n6_; have BK517 := n7_; have BK529 := n8_; have HB := n9_; clear n0_ n1_ n2_ n3_ n4_ n5_ n6_ n7_ n8_ n9_; (try clear hb); (try clear hb2); (try clear hk); (try clear hi); (try clear ho0); obtain ⟨Ao127, co127, eo127⟩ := Kd.R_slice HO557.out; subst eo127; obtain ⟨Ao128, co128, eo128⟩ := Kd.R_slice HO560.out; subst eo128) | ((with_reducible refine gate_callee (f := 31) rfl ?_); refine goesL_ (some 97) rfl rfl Try.func31 (by kernel_rfl) rfl #[.agg #[.int .i64 t551, .int .i64 t552, .int .i64 t553, .int .i64 t554, .slice Ao127 t555.length co127], .slice Ao128 t558.length co128] rfl (by (try simp only [List.map_toArray, List.map_cons, List.map_nil]); first | done | rfl | (simp only [List.length_drop, List.length_take]; rfl)) ?_; (with_reducible refine (impl_Recolour.calls kj73 t551 t552 t553 t554 _ _ t555 _ _ t558 t561 t562 t563 t564 t565 t568 _ ?side1 ?side2 ?side3 ?side4 A113.out).mono ?_); (case side1 => repeat (first | exact (Kd.R_reads' HO557.out).2.2 | (with_reducible refine Kd.C_alloc ?_ _) | (with_reducible refine Kd.C_drewN ?_ _) | (with_reducible refine Kd.C_drew ?_))); (case side2 => exact (Kd.R_reads' HO557.out).2.1); (case side3 => repeat (first | exact (Kd.R_reads' HO560.out).2.2 | (with_reducible refine Kd.C_alloc ?_ _) | (with_reducible refine Kd.C_drewN ?_ _) | (with_reducible refine Kd.C_drew ?_))); (case side4 => exact (Kd.R_reads' HO560.out).2.1); rintro e w129 ⟨v566, rfl, ho0, hb⟩; refine ⟨_, rfl, ?_⟩; have n0_ := Aside0.mk (Kd.R_elder' (by (with_reducible repeat (first | apply Kd.R_alloc | apply Kd.R_drewN | apply Kd.R_drew)); exact HO_510004.out) (Kd.R_base ho0) hb); have n1_ := Aside0.mk (Kd.R_elder' (by (with_reducible repeat (first | apply Kd.R_alloc | apply Kd.R_drewN | apply Kd.R_drew)); exact HO_518004.out) (Kd.R_base ho0) hb); have n2_ := Aside0.mk (Kd.R_elder' (by (with_reducible repeat (first | apply Kd.R_alloc | apply Kd.R_drewN | apply Kd.R_drew)); exact HO_530004.out) (Kd.R_base ho0) hb); have n3_ := Aside0.mk (Kd.R_elder' (by (with_reducible repeat (first | apply Kd.R_alloc | apply Kd.R_drewN | apply Kd.R_drew)); exact HO557.out) (Kd.R_base ho0) hb); have n4_ := Aside0.mk (Kd.R_elder' (by (with_reducible repeat (first | apply Kd.R_alloc | apply Kd.R_drewN | apply Kd.R_drew)); exact HO560.out) (Kd.R_base ho0) hb); have n5_ := Aside0.mk (Kd.R_lower (Kd.R_new' (Kd.R_new' (Kd.R_new' (Kd.R_new' (Kd.R_new' ho0 (Kd.R_lt (by (with_reducible repeat (first | apply Kd.R_alloc | apply Kd.R_drewN | apply Kd.R_drew)); exact HO_510004.out))) (Kd.R_lt (by (with_reducible repeat (first | apply Kd.R_alloc | apply Kd.R_drewN | apply Kd.R_drew)); exact HO_518004.out))) (Kd.R_lt (by (with_reducible repeat (first | apply Kd.R_alloc | apply Kd.R_drewN | apply Kd.R_drew)); exact HO_530004.out))) (Kd.R_lt (by (with_reducible repeat (first | apply Kd.R_alloc | apply Kd.R_drewN | apply Kd.R_drew)); exact HO557.out))) (Kd.R_lt (by (with_reducible repeat (first | apply Kd.R_alloc | apply Kd.R_drewN | apply Kd.R_drew)); exact HO560.out))) (below_size (by repeat (first | (with_reducible first | exact HB.out | apply below_alloc | apply pw_below_drewN | apply below_drew1 | refine below_set ?_ GE489.out | refine below_set ?_ GE509.out | refine below_set ?_ GE517.out | refine below_set ?_ GE529.out) | exact HB.out)))); have n6_ := Aside0.mk (blk_below (g := gb489) (o := .cells #[.int .i64 a0_0, .int .i64 a0_1, .int .i64 a0_2, .int .i64 a0_3, .slice A0_4 l0_4.length c0_4] 26 (0, 0)) (by (with_reducible repeat (first | refine blk_drewN ?_ _ | refine blk_drew ?_ | refine blk_alloc ?_ _)); exact BK489.out) hb); have n7_ := Aside0.mk (blk_below (g := gb509) (o := .cells #[.int .i64 t501, .int .i64 t502, .int .i64 t503, .int .i64 t504, .slice Ao29 t505.length co29] 31 (0, 0)) (by (with_reducible repeat (first | refine blk_drewN ?_ _ | refine blk_drew ?_ | refine blk_alloc ?_ _)); exact BK509.out) hb); have n8_ := Aside0.mk (blk_below (g := gb517) (o := .cells #[.int .i64 t510, .int .i64 t511, .int .i64 t512, .int .i64 t513, .slice Ao36 t544.length co36] 31 (0, 0)) (by (with_reducible repeat (first | refine blk_drewN ?_ _ | refine blk_drew ?_ | refine blk_alloc ?_ _)); exact BK517.out) hb); have n9_ := Aside0.mk (blk_below (g := gb529) (o := .cells #[.int .i64 t521, .int .i64 t522, .int .i64 t523, .int .i64 t524, .slice Ao46 t525.length co46] 31 (0, 0)) (by (with_reducible repeat (first | refine blk_drewN ?_ _ | refine blk_drew ?_ | refine blk_alloc ?_ _)); exact BK529.out) hb); have n10_ := Aside0.mk (below_step (by repeat (first | (with_reducible first | exact HB.out | apply below_alloc | apply pw_below_drewN | apply below_drew1 | refine below_set ?_ GE489.out | refine below_set ?_ GE509.out | refine below_set ?_ GE517.out | refine below_set ?_ GE529.out) | exact HB.out)) hb); clear HO_510004; clear HO_518004; clear HO_530004; clear HO557; clear HO560; clear BK489; clear BK509; clear BK517; clear BK529; clear HB; have HO_510004 := n0_; have HO_518004 := n1_; have HO_530004 := n2_; have HO557 := n3_; have HO560 := n4_; have HO567 := n5_; have BK489 := n6_; have BK509 := n7_; have BK517 := n8_; have BK529 := n9_; have HB := n10_; clear n0_ n1_ n2_ n3_ n4_ n5_ n6_ n7_ n8_ n9_ n10_; (try clear hb); (try clear hb2); (try clear hk); (try clear hi); (try clear ho0)) | ((with_reducible refine gate_dst (N := 15) rfl ?_); refine box_event ?hg (N := 15) ?hd (cs := #[.int .i64 0, .int .i64 0, .int .i64 0, .int .i64 0, .slice none 0 0]) (t := 31) ?hr ?_; (case hd => rfl); (case hg => rfl); (case hr => first | (go_simp; done) | (go_simp; rfl)); intro gb569 hg w130 hbox hb; have n0_ := Aside0.mk (Kd.R_below (by (with_reducible repeat (first | apply Kd.R_alloc | apply Kd.R_drewN | apply Kd.R_drew)); exact HO_510004.out) hb); have n1_ := Aside0.mk (Kd.R_below (by (with_reducible repeat (first | apply Kd.R_alloc | apply Kd.R_drewN | apply Kd.R_drew)); exact HO_518004.out) hb); have n2_ := Aside0.mk (Kd.R_below (by (with_reducible repeat (first | apply Kd.R_alloc | apply Kd.R_drewN | apply Kd.R_drew)); exact HO_530004.out) hb); have n3_ := Aside0.mk (Kd.R_below (by (with_reducible repeat (first | apply Kd.R_alloc | apply Kd.R_drewN | apply Kd.R_drew)); exact HO557.out) hb); have n4_ := Aside0.mk (Kd.R_below (by (with_reducible repeat (first | apply Kd.R_alloc | apply Kd.R_drewN | apply Kd.R_drew)); exact HO560.out) hb); have n5_ := Aside0.mk (Kd.R_below (by (with_reducible repeat (first | apply Kd.R_alloc | apply Kd.R_drewN | apply Kd.R_drew)); exact HO567.out) hb); have n6_ := Aside0.mk (blk_below (g := gb489) (o := .cells #[.int .i64 a0_0, .int .i64 a0_1, .int .i64 a0_2, .int .i64 a0_3, .slice A0_4 l0_4.length c0_4] 26 (0, 0)) (by (with_reducible repeat (first | refine blk_drewN ?_ _ | refine blk_drew ?_ | refine blk_alloc ?_ _)); exact BK489.out) hb); have n7_ := Aside0.mk (blk_below (g := gb509) (o := .cells #[.int .i64 t501, .int .i64 t502, .int .i64 t503, .int .i64 t504, .slice Ao29 t505.length co29] 31 (0, 0)) (by (with_reducible repeat (first | refine blk_drewN ?_ _ | refine blk_drew ?_ | refine blk_alloc ?_ _)); exact BK509.out) hb); have n8_ := Aside0.mk (blk_below (g := gb517) (o := .cells #[.int .i64 t510, .int .i64 t511, .int .i64 t512, .int .i64 t513, .slice Ao36 t544.length co36] 31 (0, 0)) (by (with_reducible repeat (first | refine blk_drewN ?_ _ | refine blk_drew ?_ | refine blk_alloc ?_ _)); exact BK517.out) hb); have n9_ := Aside0.mk (blk_below (g := gb529) (o := .cells #[.int .i64 t521, .int .i64 t522, .int .i64 t523, .int .i64 t524, .slice Ao46 t525.length co46] 31 (0, 0)) (by (with_reducible repeat (first | refine blk_drewN ?_ _ | refine blk_drew ?_ | refine blk_alloc ?_ _)); exact BK529.out) hb); have n10_ := Aside0.mk (below_step (by repeat (first | (with_reducible first | exact HB.out | apply below_alloc | apply pw_below_drewN | apply below_drew1 | refine below_set ?_ GE489.out | refine below_set ?_ GE509.out | refine below_set ?_ GE517.out | refine below_set ?_ GE529.out) | exact HB.out)) hb); have n11_ := Aside0.mk (hbox); have n12_ := Aside0.mk ((by rw [hg]; exact (below_size (by repeat (first | (with_reducible first | exact HB.out | apply below_alloc | apply pw_below_drewN | apply below_drew1 | refine below_set ?_ GE489.out | refine below_set ?_ GE509.out | refine below_set ?_ GE517.out | refine below_set ?_ GE529.out) | exact HB.out))) : w.heap.size ≤ gb569)); have n13_ := Aside0.mk ((by rw [hg]; exact (below_size (by repeat (first | (with_reducible first | exact HB.out | apply below_alloc | apply pw_below_drewN | apply below_drew1 | refine below_set ?_ GE489.out | refine below_set ?_ GE509.out | refine below_set ?_ GE517.out | refine below_set ?_ GE529.out) | exact HB.out))) : w.heap.size ≤ gb569)); have n14_ := Aside0.mk ((by rw [hg]; exact Nat.ne_of_lt (blk_lt (g := gb489) (o := .cells #[.int .i64 a0_0, .int .i64 a0_1, .int .i64 a0_2, .int .i64 a0_3, .slice A0_4 l0_4.length c0_4] 26 (0, 0)) (by (with_reducible repeat (first | refine blk_drewN ?_ _ | refine blk_drew ?_ | refine blk_alloc ?_ _)); exact BK489.out)) : gb489 ≠ gb569)); have n15_ := Aside0.mk ((by rw [hg]; exact Nat.ne_of_gt (blk_lt (g := gb489) (o := .cells #[.int .i64 a0_0, .int .i64 a0_1, .int .i64 a0_2, .int .i64 a0_3, .slice A0_4 l0_4.length c0_4] 26 (0, 0)) (by (with_reducible repeat (first | refine blk_drewN ?_ _ | refine blk_drew ?_ | refine blk_alloc ?_ _)); exact BK489.out)) : gb569 ≠ gb489)); have n16_ := Aside0.mk ((by rw [hg]; exact Nat.ne_of_lt (blk_lt (g := gb509) (o := .cells #[.int .i64 t501, .int .i64 t502, .int .i64 t503, .int .i64 t504, .slice Ao29 t505.length co29] 31 (0, 0)) (by (with_reducible repeat (first | refine blk_drewN ?_ _ | refine blk_drew ?_ | refine blk_alloc ?_ _)); exact BK509.out)) : gb509 ≠ gb569)); have n17_ := Aside0.mk ((by rw [hg]; exact Nat.ne_of_gt (blk_lt (g := gb509) (o := .cells #[.int .i64 t501, .int .i64 t502, .int .i64 t503, .int .i64 t504, .slice Ao29 t505.length co29] 31 (0, 0)) (by (with_reducible repeat (first | refine blk_drewN ?_ _ | refine blk_drew ?_ | refine blk_alloc ?_ _)); exact BK509.out)) : gb569 ≠ gb509)); have n18_ := Aside0.mk ((by rw [hg]; exact Nat.ne_of_lt (blk_lt (g := gb517) (o := .cells #[.int .i64 t510, .int .i64 t511, .int .i64 t512, .int .i64 t513, .slice Ao36 t544.length co36] 31 (0, 0)) (by (with_reducible repeat (first | refine blk_drewN ?_ _ | refine blk_drew ?_ | refine blk_alloc ?_ _)); exact BK517.out)) : gb517 ≠ gb569)); have n19_ := Aside0.mk ((by rw [hg]; exact Nat.ne_of_gt (blk_lt (g := gb517) (o := .cells #[.int .i64 t510, .int .i64 t511, .int .i64 t512, .int .i64 t513, .slice Ao36 t544.length co36] 31 (0, 0)) (by (with_reducible repeat (first | refine blk_drewN ?_ _ | refine blk_drew ?_ | refine blk_alloc ?_ _)); exact BK517.out)) : gb569 ≠ gb517)); have n20_ := Aside0.mk ((by rw [hg]; exact Nat.ne_of_lt (blk_lt (g := gb529) (o := .cells #[.int .i64 t521, .int .i64 t522, .int .i64 t523, .int .i64 t524, .slice Ao46 t525.length co46] 31 (0, 0)) (by (with_reducible repeat (first | refine blk_drewN ?_ _ | refine blk_drew ?_ | refine blk_alloc ?_ _)); exact BK529.out)) : gb529 ≠ gb569)); have n21_ := Aside0.mk ((by rw [hg]; exact Nat.ne_of_gt (blk_lt (g := gb529) (o := .cells #[.int .i64 t521, .int .i64 t522, .int .i64 t523, .int .i64 t524, .slice Ao46 t525.length co46] 31 (0, 0)) (by (with_reducible repeat (first | refine blk_drewN ?_ _ | refine blk_drew ?_ | refine blk_alloc ?_ _)); exact BK529.out)) : gb569 ≠ gb529)); clear HO_510004; clear HO_518004; clear HO_530004; clear HO557; clear HO560; clear HO567; clear BK489; clear BK509; clear BK517; clear BK529; clear HB; have HO_510004 := n0_; have HO_518004 := n1_; have HO_530004 := n2_; have HO557 := n3_; have HO560 := n4_; have HO567 := n5_; have BK489 := n6_; have BK509 := n7_; have BK517 := n8_; have BK529 := n9_; have HB := n10_; have BK569 := n11_; have GW569 := n12_; have GE569 := n13_; have NB489_569 := n14_; have NB569_489 := n15_; have NB509_569 := n16_; have NB569_509 := n17_; have NB517_569 := n18_; have NB569_517 := n19_; have NB529_569 := n20_; have NB569_529 := n21_; clear n0_ n1_ n2_ n3_ n4_ n5_ n6_ n7_ n8_ n9_ n10_ n11_ n12_ n13_ n14_ n15_ n16_ n17_ n18_ n19_ n20_ n21_; clear hb hbox hg; have hnb131 := NB569_489.out; have hnc131 := NB489_569.out; have hnb132 := NB569_509.out; have hnc132 := NB509_569.out; have hnb133 := NB569_517.out; have hnc133 := NB517_569.out; have hnb134 := NB569_529.out; have hnc134 := NB529_569.out; have hcz135_0 : w130.cell? ⟨gb569, 0, none⟩ = some (.int .i64 0) := (blk_cell BK569.out 0).trans rfl; have hcz135_1 : w130.cell? ⟨gb569, 1, none⟩ = some (.int .i64 0) := (blk_cell BK569.out 1).trans rfl; have hcz135_2 : w130.cell? ⟨gb569, 2, none⟩ = some (.int .i64 0) := (blk_cell BK569.out 2).trans rfl; have hcz135_3 : w130.cell? ⟨gb569, 3, none⟩ = some (.int .i64 0) := (blk_cell BK569.out 3).trans rfl; have hcz135_4 : w130.cell? ⟨gb569, 4, none⟩ = some (.slice none 0 0) := (blk_cell BK569.out 4).trans rfl; have hfz135_0 := blk_frozen BK569.out 0; have hfz135_1 := blk_frozen BK569.out 1; have hfz135_2 := blk_frozen BK569.out 2; have hfz135_3 := blk_frozen BK569.out 3; have hfz135_4 := blk_frozen BK569.out 4; obtain ⟨Ao136, co136, eo136⟩ := Kd.R_slice HO567.out; subst eo136))
                          (try simp only [Act.put, List.setIfInBounds_toArray, List.set_cons_zero, List.set_cons_succ])
                          go_cut [108] (fun v108 wc => ∃ (kq : Nat) (x108_113 : Bool), v108 = .bool x108_113 ∧ Aside0 (laws_FnExactRecolour.j2 kq t548 x108_113 t521 t522 t523 t524 t549 = some true) ∧ Aside0 (kq ≤ kj73) ∧ Aside0 (Kd.R (Kd.int .i64) 2 wc w.heap.size (fun k_ => some k_ ≠ ((.slice Ao36 t544.length co36) : Value).ownBlock ∧ some k_ ≠ ((.slice Ao46 t525.length co46) : Value).ownBlock ∧ some k_ ≠ ((.slice Ao136 t565.length co136) : Value).ownBlock) (.slice Ao29 t505.length co29) t505) ∧ Aside0 (Kd.R (Kd.int .i64) 2 wc w.heap.size (fun k_ => some k_ ≠ ((.slice Ao29 t505.length co29) : Value).ownBlock ∧ some k_ ≠ ((.slice Ao46 t525.length co46) : Value).ownBlock ∧ some k_ ≠ ((.slice Ao136 t565.length co136) : Value).ownBlock) (.slice Ao36 t544.length co36) t544) ∧ Aside0 (Kd.R (Kd.int .i64) 2 wc w.heap.size (fun k_ => some k_ ≠ ((.slice Ao29 t505.length co29) : Value).ownBlock ∧ some k_ ≠ ((.slice Ao36 t544.length co36) : Value).ownBlock ∧ some k_ ≠ ((.slice Ao136 t565.length co136) : Value).ownBlock) (.slice Ao46 t525.length co46) t549) ∧ Aside0 (Kd.R (Kd.int .i64) 2 wc w.heap.size (fun k_ => some k_ ≠ ((.slice Ao29 t505.length co29) : Value).ownBlock ∧ some k_ ≠ ((.slice Ao36 t544.length co36) : Value).ownBlock ∧ some k_ ≠ ((.slice Ao46 t525.length co46) : Value).ownBlock) (.slice Ao136 t565.length co136) t565) ∧ Aside0 (wc.heap[gb489]? = some (.cells #[.int .i64 a0_0, .int .i64 a0_1, .int .i64 a0_2, .int .i64 a0_3, (.slice A0_4 l0_4.length c0_4)] 26 (0, 0))) ∧ Aside0 (wc.heap[gb509]? = some (.cells #[.int .i64 t501, .int .i64 t502, .int .i64 t503, .int .i64 t504, (.slice Ao29 t505.length co29)] 31 (0, 0))) ∧ Aside0 (wc.heap[gb517]? = some (.cells #[.int .i64 t510, .int .i64 t511, .int .i64 t512, .int .i64 t513, (.slice Ao36 t544.length co36)] 31 (0, 0))) ∧ Aside0 (wc.heap[gb529]? = some (.cells #[.int .i64 t521, .int .i64 t522, .int .i64 t523, .int .i64 t524, (.slice Ao46 t525.length co46)] 31 (0, 0))) ∧ Aside0 (wc.heap[gb569]? = some (.cells #[.int .i64 t561, .int .i64 t562, .int .i64 t563, .int .i64 t564, (.slice Ao136 t565.length co136)] 31 (0, 0))) ∧ Aside0 (Below w.heap.size w wc))
                          case first =>
                            have H := HC114.out
                            clear HC114
                            replace H := Option.bind_eq_some_iff.mp H
                            obtain ⟨t570, A1370, H⟩ := H
                            replace H : (if t570 = true then (laws_FnExactRecolour.j2 kj73 t548 (t568 != t508) t521 t522 t523 t524 t549) else (laws_FnExactRecolour.j2 kj73 t548 true t521 t522 t523 t524 t549)) = some true := H
                            have A137 := Aside0.mk A1370
                            clear A1370
                            by_cases c138 : t570 = true
                            · subst c138
                              have H1 : (laws_FnExactRecolour.j2 kj73 t548 (t568 != t508) t521 t522 t523 t524 t549) = some true := by rw [if_pos rfl] at H; first | done | exact H
                              clear H
                              have H := H1
                              clear H1
                              have H' := Aside0.mk H
                              clear H
                              have hnb139 := NB569_489.out
                              have hnc139 := NB489_569.out
                              have hnb140 := NB569_509.out
                              have hnc140 := NB509_569.out
                              have hnb141 := NB569_517.out
                              have hnc141 := NB517_569.out
                              have hnb142 := NB569_529.out
                              have hnc142 := NB529_569.out
                              have hcz143_0 : w130.cell? ⟨gb569, 0, none⟩ = some (.int .i64 0) := (blk_cell BK569.out 0).trans rfl
                              have hcz143_1 : w130.cell? ⟨gb569, 1, none⟩ = some (.int .i64 0) := (blk_cell BK569.out 1).trans rfl
                              have hcz143_2 : w130.cell? ⟨gb569, 2, none⟩ = some (.int .i64 0) := (blk_cell BK569.out 2).trans rfl
                              have hcz143_3 : w130.cell? ⟨gb569, 3, none⟩ = some (.int .i64 0) := (blk_cell BK569.out 3).trans rfl
                              have hcz143_4 : w130.cell? ⟨gb569, 4, none⟩ = some (.slice none 0 0) := (blk_cell BK569.out 4).trans rfl
                              have hfz143_0 := blk_frozen BK569.out 0
                              have hfz143_1 := blk_frozen BK569.out 1
                              have hfz143_2 := blk_frozen BK569.out 2
                              have hfz143_3 := blk_frozen BK569.out 3
                              have hfz143_4 := blk_frozen BK569.out 4
                              have hnb144 := NB509_489.out
                              have hnc144 := NB489_509.out
                              have hnb145 := NB509_517.out
                              have hnc145 := NB517_509.out
                              have hnb146 := NB509_529.out
                              have hnc146 := NB529_509.out
                              have hcz147_0 : w130.cell? ⟨gb509, 0, none⟩ = some (.int .i64 t501) := (blk_cell BK509.out 0).trans rfl
                              have hcz147_1 : w130.cell? ⟨gb509, 1, none⟩ = some (.int .i64 t502) := (blk_cell BK509.out 1).trans rfl
                              have hcz147_2 : w130.cell? ⟨gb509, 2, none⟩ = some (.int .i64 t503) := (blk_cell BK509.out 2).trans rfl
                              have hcz147_3 : w130.cell? ⟨gb509, 3, none⟩ = some (.int .i64 t504) := (blk_cell BK509.out 3).trans rfl
                              have hcz147_4 : w130.cell? ⟨gb509, 4, none⟩ = some (.slice Ao29 t505.length co29) := (blk_cell BK509.out 4).trans rfl
                              have hfz147_0 := blk_frozen BK509.out 0
                              have hfz147_1 := blk_frozen BK509.out 1
                              have hfz147_2 := blk_frozen BK509.out 2
                              have hfz147_3 := blk_frozen BK509.out 3
                              have hfz147_4 := blk_frozen BK509.out 4
                              go_wp2_with (first | ((with_reducible refine gate_callee (f := 14) rfl ?_); refine goesL_ (some 102) rfl rfl Try.func14 (by kernel_rfl) rfl #[.agg #[.int .i64 t561, .int .i64 t562, .int .i64 t563, .int .i64 t564, .slice Ao136 t565.length co136], .agg #[.int .i64 t501, .int .i64 t502, .int .i64 t503, .int .i64 t504, .slice Ao29 t505.length co29]] rfl (by (try simp only [List.map_toArray, List.map_cons, List.map_nil]); first | done | rfl | (simp only [List.length_drop, List.length_take]; rfl)) ?_; (with_reducible refine (laws_eqPattern.calls kj73 t561 t562 t563 t564 _ _ t565 t501 t502 t503 t504 _ _ t505 true _ ?side1 ?side2 ?side3 ?side4 A137.out).mono ?_); (case side1 => refine (Kd.R_reads' (e := 2) (base := w.heap.size) (ok := fun k_ => (((((True ∧ some k_ ≠ (.slice Ao29 t505.length co29 : Value).ownBlock) ∧ some k_ ≠ (.slice Ao36 t544.length co36 : Value).ownBlock) ∧ some k_ ≠ (.slice Ao46 t525.length co46 : Value).ownBlock) ∧ some k_ ≠ (.slice Ao127 t555.length co127 : Value).ownBlock) ∧ some k_ ≠ (.slice Ao128 t558.length co128 : Value).ownBlock)) (n := t565.length) (c := co136) ?_).2.2; exact (by (with_reducible repeat (first | apply Kd.R_alloc | apply Kd.R_drewN | apply Kd.R_drew)); exact (Kd.R_mono (Kd.R_far (p := ⟨gb569, 4, none⟩) (Kd.R_far (p := ⟨gb569, 3, none⟩) (Kd.R_far (p := ⟨gb569, 2, none⟩) (Kd.R_far (p := ⟨gb569, 1, none⟩) (Kd.R_far (p := ⟨gb569, 0, none⟩) (Kd.R_types HO567.out BK569.out (by decide)) (fun _ hk => hk.2) (.int .i64 t561)) (fun _ hk => hk.2) (.int .i64 t562)) (fun _ hk => hk.2) (.int .i64 t563)) (fun _ hk => hk.2) (.int .i64 t564)) (fun _ hk => hk.2) (.slice Ao136 t565.length co136)) (fun _ h_ => h_.1)))); (case side2 => exact (Kd.R_reads' HO567.out).2.1); (case side3 => refine (Kd.R_reads' (e := 2) (base := w.heap.size) (ok := fun k_ => ((((some k_ ≠ (.slice Ao36 t544.length co36 : Value).ownBlock ∧ some k_ ≠ (.slice Ao46 t525.length co46 : Value).ownBlock) ∧ some k_ ≠ (.slice Ao127 t555.length co127 : Value).ownBlock) ∧ some k_ ≠ (.slice Ao128 t558.length co128 : Value).ownBlock) ∧ some k_ ≠ (.slice Ao136 t565.length co136 : Value).ownBlock)) (n := t505.length) (c := co29) ?_).2.2; exact (by (with_reducible repeat (first | apply Kd.R_alloc | apply Kd.R_drewN | apply Kd.R_drew)); exact (Kd.R_mono (Kd.R_far (p := ⟨gb569, 4, none⟩) (Kd.R_far (p := ⟨gb569, 3, none⟩) (Kd.R_far (p := ⟨gb569, 2, none⟩) (Kd.R_far (p := ⟨gb569, 1, none⟩) (Kd.R_far (p := ⟨gb569, 0, none⟩) (Kd.R_types HO_510004.out BK569.out (by decide)) (fun _ hk => hk.2) (.int .i64 t561)) (fun _ hk => hk.2) (.int .i64 t562)) (fun _ hk => hk.2) (.int .i64 t563)) (fun _ hk => hk.2) (.int .i64 t564)) (fun _ hk => hk.2) (.slice Ao136 t565.length co136)) (fun _ h_ => h_.1)))); (case side4 => exact (Kd.R_reads' HO_510004.out).2.1); rintro e w148 ⟨rfl, hb⟩; refine ⟨_, rfl, ?_⟩; have n0_ := Aside0.mk (Kd.R_below (by (with_reducible repeat (first | apply Kd.R_alloc | apply Kd.R_drewN | apply Kd.R_drew)); exact (Kd.R_mono (Kd.R_far (p := ⟨gb569, 4, none⟩) (Kd.R_far (p := ⟨gb569, 3, none⟩) (Kd.R_far (p := ⟨gb569, 2, none⟩) (Kd.R_far (p := ⟨gb569, 1, none⟩) (Kd.R_far (p := ⟨gb569, 0, none⟩) (Kd.R_types HO_510004.out BK569.out (by decide)) (fun _ hk => hk.2) (.int .i64 t561)) (fun _ hk => hk.2) (.int .i64 t562)) (fun _ hk => hk.2) (.int .i64 t563)) (fun _ hk => hk.2) (.int .i64 t564)) (fun _ hk => hk.2) (.slice Ao136 t565.length co136)) (fun _ h_ => h_.1))) hb); have n1_ := Aside0.mk (Kd.R_below (by (with_reducible repeat (first | apply Kd.R_alloc | apply Kd.R_drewN | apply Kd.R_drew)); exact (Kd.R_mono (Kd.R_far (p := ⟨gb569, 4, none⟩) (Kd.R_far (p := ⟨gb569, 3, none⟩) (Kd.R_far (p := ⟨gb569, 2, none⟩) (Kd.R_far (p := ⟨gb569, 1, none⟩) (Kd.R_far (p := ⟨gb569, 0, none⟩) (Kd.R_types HO_518004.out BK569.out (by decide)) (fun _ hk => hk.2) (.int .i64 t561)) (fun _ hk => hk.2) (.int .i64 t562)) (fun _ hk => hk.2) (.int .i64 t563)) (fun _ hk => hk.2) (.int .i64 t564)) (fun _ hk => hk.2) (.slice Ao136 t565.length co136)) (fun _ h_ => h_.1))) hb); have n2_ := Aside0.mk (Kd.R_below (by (with_reducible repeat (first | apply Kd.R_alloc | apply Kd.R_drewN | apply Kd.R_drew)); exact (Kd.R_mono (Kd.R_far (p := ⟨gb569, 4, none⟩) (Kd.R_far (p := ⟨gb569, 3, none⟩) (Kd.R_far (p := ⟨gb569, 2, none⟩) (Kd.R_far (p := ⟨gb569, 1, none⟩) (Kd.R_far (p := ⟨gb569, 0, none⟩) (Kd.R_types HO_530004.out BK569.out (by decide)) (fun _ hk => hk.2) (.int .i64 t561)) (fun _ hk => hk.2) (.int .i64 t562)) (fun _ hk => hk.2) (.int .i64 t563)) (fun _ hk => hk.2) (.int .i64 t564)) (fun _ hk => hk.2) (.slice Ao136 t565.length co136)) (fun _ h_ => h_.1))) hb); have n3_ := Aside0.mk (Kd.R_below (by (with_reducible repeat (first | apply Kd.R_alloc | apply Kd.R_drewN | apply Kd.R_drew)); exact (Kd.R_mono (Kd.R_far (p := ⟨gb569, 4, none⟩) (Kd.R_far (p := ⟨gb569, 3, none⟩) (Kd.R_far (p := ⟨gb569, 2, none⟩) (Kd.R_far (p := ⟨gb569, 1, none⟩) (Kd.R_far (p := ⟨gb569, 0, none⟩) (Kd.R_types HO557.out BK569.out (by decide)) (fun _ hk => hk.2) (.int .i64 t561)) (fun _ hk => hk.2) (.int .i64 t562)) (fun _ hk => hk.2) (.int .i64 t563)) (fun _ hk => hk.2) (.int .i64 t564)) (fun _ hk => hk.2) (.slice Ao136 t565.length co136)) (fun _ h_ => h_.1))) hb); have n4_ := Aside0.mk (Kd.R_below (by (with_reducible repeat (first | apply Kd.R_alloc | apply Kd.R_drewN | apply Kd.R_drew)); exact (Kd.R_mono (Kd.R_far (p := ⟨gb569, 4, none⟩) (Kd.R_far (p := ⟨gb569, 3, none⟩) (Kd.R_far (p := ⟨gb569, 2, none⟩) (Kd.R_far (p := ⟨gb569, 1, none⟩) (Kd.R_far (p := ⟨gb569, 0, none⟩) (Kd.R_types HO560.out BK569.out (by decide)) (fun _ hk => hk.2) (.int .i64 t561)) (fun _ hk => hk.2) (.int .i64 t562)) (fun _ hk => hk.2) (.int .i64 t563)) (fun _ hk => hk.2) (.int .i64 t564)) (fun _ hk => hk.2) (.slice Ao136 t565.length co136)) (fun _ h_ => h_.1))) hb); have n5_ := Aside0.mk (Kd.R_below (by (with_reducible repeat (first | apply Kd.R_alloc | apply Kd.R_drewN | apply Kd.R_drew)); exact (Kd.R_mono (Kd.R_far (p := ⟨gb569, 4, none⟩) (Kd.R_far (p := ⟨gb569, 3, none⟩) (Kd.R_far (p := ⟨gb569, 2, none⟩) (Kd.R_far (p := ⟨gb569, 1, none⟩) (Kd.R_far (p := ⟨gb569, 0, none⟩) (Kd.R_types HO567.out BK569.out (by decide)) (fun _ hk => hk.2) (.int .i64 t561)) (fun _ hk => hk.2) (.int .i64 t562)) (fun _ hk => hk.2) (.int .i64 t563)) (fun _ hk => hk.2) (.int .i64 t564)) (fun _ hk => hk.2) (.slice Ao136 t565.length co136)) (fun _ h_ => h_.1))) hb); have n6_ := Aside0.mk (blk_below (g := gb489) (o := .cells #[.int .i64 a0_0, .int .i64 a0_1, .int .i64 a0_2, .int .i64 a0_3, .slice A0_4 l0_4.length c0_4] 26 (0, 0)) (by (with_reducible repeat (first | refine blk_drewN ?_ _ | refine blk_drew ?_ | refine blk_alloc ?_ _)); refine blk_far ?_ NB489_569.out _; (with_reducible repeat (first | refine blk_drewN ?_ _ | refine blk_drew ?_ | refine blk_alloc ?_ _)); refine blk_far ?_ NB489_569.out _; (with_reducible repeat (first | refine blk_drewN ?_ _ | refine blk_drew ?_ | refine blk_alloc ?_ _)); refine blk_far ?_ NB489_569.out _; (with_reducible repeat (first | refine blk_drewN ?_ _ | refine blk_drew ?_ | refine blk_alloc ?_ _)); refine blk_far ?_ NB489_569.out _; (with_reducible repeat (first | refine blk_drewN ?_ _ | refine blk_drew ?_ | refine blk_alloc ?_ _)); refine blk_far ?_ NB489_569.out _; (with_reducible repeat (first | refine blk_drewN ?_ _ | refine blk_drew ?_ | refine blk_alloc ?_ _)); exact BK489.out) hb); have n7_ := Aside0.mk (blk_below (g := gb509) (o := .cells #[.int .i64 t501, .int .i64 t502, .int .i64 t503, .int .i64 t504, .slice Ao29 t505.length co29] 31 (0, 0)) (by (with_reducible repeat (first | refine blk_drewN ?_ _ | refine blk_drew ?_ | refine blk_alloc ?_ _)); refine blk_far ?_ NB509_569.out _; (with_reducible repeat (first | refine blk_drewN ?_ _ | refine blk_drew ?_ | refine blk_alloc ?_ _)); refine blk_far ?_ NB509_569.out _; (with_reducible repeat (first | refine blk_drewN ?_ _ | refine blk_drew ?_ | refine blk_alloc ?_ _)); refine blk_far ?_ NB509_569.out _; (with_reducible repeat (first | refine blk_drewN ?_ _ | refine blk_drew ?_ | refine blk_alloc ?_ _)); refine blk_far ?_ NB509_569.out _; (with_reducible repeat (first | refine blk_drewN ?_ _ | refine blk_drew ?_ | refine blk_alloc ?_ _)); refine blk_far ?_ NB509_569.out _; (with_reducible repeat (first | refine blk_drewN ?_ _ | refine blk_drew ?_ | refine blk_alloc ?_ _)); exact BK509.out) hb); have n8_ := Aside0.mk (blk_below (g := gb517) (o := .cells #[.int .i64 t510, .int .i64 t511, .int .i64 t512, .int .i64 t513, .slice Ao36 t544.length co36] 31 (0, 0)) (by (with_reducible repeat (first | refine blk_drewN ?_ _ | refine blk_drew ?_ | refine blk_alloc ?_ _)); refine blk_far ?_ NB517_569.out _; (with_reducible repeat (first | refine blk_drewN ?_ _ | refine blk_drew ?_ | refine blk_alloc ?_ _)); refine blk_far ?_ NB517_569.out _; (with_reducible repeat (first | refine blk_drewN ?_ _ | refine blk_drew ?_ | refine blk_alloc ?_ _)); refine blk_far ?_ NB517_569.out _; (with_reducible repeat (first | refine blk_drewN ?_ _ | refine blk_drew ?_ | refine blk_alloc ?_ _)); refine blk_far ?_ NB517_569.out _; (with_reducible repeat (first | refine blk_drewN ?_ _ | refine blk_drew ?_ | refine blk_alloc ?_ _)); refine blk_far ?_ NB517_569.out _; (with_reducible repeat (first | refine blk_drewN ?_ _ | refine blk_drew ?_ | refine blk_alloc ?_ _)); exact BK517.out) hb); have n9_ := Aside0.mk (blk_below (g := gb529) (o := .cells #[.int .i64 t521, .int .i64 t522, .int .i64 t523, .int .i64 t524, .slice Ao46 t525.length co46] 31 (0, 0)) (by (with_reducible repeat (first | refine blk_drewN ?_ _ | refine blk_drew ?_ | refine blk_alloc ?_ _)); refine blk_far ?_ NB529_569.out _; (with_reducible repeat (first | refine blk_drewN ?_ _ | refine blk_drew ?_ | refine blk_alloc ?_ _)); refine blk_far ?_ NB529_569.out _; (with_reducible repeat (first | refine blk_drewN ?_ _ | refine blk_drew ?_ | refine blk_alloc ?_ _)); refine blk_far ?_ NB529_569.out _; (with_reducible repeat (first | refine blk_drewN ?_ _ | refine blk_drew ?_ | refine blk_alloc ?_ _)); refine blk_far ?_ NB529_569.out _; (with_reducible repeat (first | refine blk_drewN ?_ _ | refine blk_drew ?_ | refine blk_alloc ?_ _)); refine blk_far ?_ NB529_569.out _; (with_reducible repeat (first | refine blk_drewN ?_ _ | refine blk_drew ?_ | refine blk_alloc ?_ _)); exact BK529.out) hb); have n10_ := Aside0.mk (blk_below (g := gb569) (o := .cells #[.int .i64 t561, .int .i64 t562, .int .i64 t563, .int .i64 t564, .slice Ao136 t565.length co136] 31 (0, 0)) (by (with_reducible repeat (first | refine blk_drewN ?_ _ | refine blk_drew ?_ | refine blk_alloc ?_ _)); refine blk_put (cs := #[.int .i64 t561, .int .i64 t562, .int .i64 t563, .int .i64 t564, .slice none 0 0]) ?_ 4 _ rfl; (with_reducible repeat (first | refine blk_drewN ?_ _ | refine blk_drew ?_ | refine blk_alloc ?_ _)); refine blk_put (cs := #[.int .i64 t561, .int .i64 t562, .int .i64 t563, .int .i64 0, .slice none 0 0]) ?_ 3 _ rfl; (with_reducible repeat (first | refine blk_drewN ?_ _ | refine blk_drew ?_ | refine blk_alloc ?_ _)); refine blk_put (cs := #[.int .i64 t561, .int .i64 t562, .int .i64 0, .int .i64 0, .slice none 0 0]) ?_ 2 _ rfl; (with_reducible repeat (first | refine blk_drewN ?_ _ | refine blk_drew ?_ | refine blk_alloc ?_ _)); refine blk_put (cs := #[.int .i64 t561, .int .i64 0, .int .i64 0, .int .i64 0, .slice none 0 0]) ?_ 1 _ rfl; (with_reducible repeat (first | refine blk_drewN ?_ _ | refine blk_drew ?_ | refine blk_alloc ?_ _)); refine blk_put (cs := #[.int .i64 0, .int .i64 0, .int .i64 0, .int .i64 0, .slice none 0 0]) ?_ 0 _ rfl; (with_reducible repeat (first | refine blk_drewN ?_ _ | refine blk_drew ?_ | refine blk_alloc ?_ _)); exact BK569.out) hb); have n11_ := Aside0.mk (below_step (by repeat (first | (with_reducible first | exact HB.out | apply below_alloc | apply pw_below_drewN | apply below_drew1 | refine below_set ?_ GE489.out | refine below_set ?_ GE509.out | refine below_set ?_ GE517.out | refine below_set ?_ GE529.out | refine below_set ?_ GE569.out) | exact HB.out)) hb); clear HO_510004; clear HO_518004; clear HO_530004; clear HO557; clear HO560; clear HO567; clear BK489; clear BK509; clear BK517; clear BK529; clear BK569; clear HB; have HO_510004 := n0_; have HO_518004 := n1_; have HO_530004 := n2_; have HO557 := n3_; have HO560 := n4_; have HO567 := n5_; have BK489 := n6_; have BK509 := n7_; have BK517 := n8_; have BK529 := n9_; have BK569 := n10_; have HB := n11_; clear n0_ n1_ n2_ n3_ n4_ n5_ n6_ n7_ n8_ n9_ n10_ n11_; (try clear hb); (try clear hb2); (try clear hk); (try clear hi)))
                              go_meet
                              case rel => exact ⟨_, ((t568 != t508)), (by first | rfl | (simp; done) | (simp [*]; done)), H', ⟨by have := HJ15.out; have := HJ73.out; first | omega | exact Nat.le_refl _⟩, ⟨by (try simp only [hl518004_73]); (with_reducible repeat (first | apply Kd.R_alloc | apply Kd.R_drewN | apply Kd.R_drew)); exact Kd.R_mono HO_510004.out (fun _ hk => ⟨hk.1.1.1.1, ⟨hk.1.1.1.2, hk.2⟩⟩)⟩, ⟨by (try simp only [hl518004_73]); (with_reducible repeat (first | apply Kd.R_alloc | apply Kd.R_drewN | apply Kd.R_drew)); exact Kd.R_mono HO_518004.out (fun _ hk => ⟨hk.1.1.1.1, ⟨hk.1.1.1.2, hk.2⟩⟩)⟩, ⟨by (try simp only [hl518004_73]); (with_reducible repeat (first | apply Kd.R_alloc | apply Kd.R_drewN | apply Kd.R_drew)); exact Kd.R_mono HO_530004.out (fun _ hk => ⟨hk.1.1.1.1, ⟨hk.1.1.1.2, hk.2⟩⟩)⟩, ⟨by (try simp only [hl518004_73]); (with_reducible repeat (first | apply Kd.R_alloc | apply Kd.R_drewN | apply Kd.R_drew)); exact Kd.R_mono HO567.out (fun _ hk => ⟨hk.1.1.1.1.2, ⟨hk.1.1.1.2, hk.1.1.2⟩⟩)⟩, ⟨by (try simp only [hl518004_73]); (with_reducible repeat (first | refine blk_drewN ?_ _ | refine blk_drew ?_ | refine blk_alloc ?_ _)); exact BK489.out⟩, ⟨by (try simp only [hl518004_73]); (with_reducible repeat (first | refine blk_drewN ?_ _ | refine blk_drew ?_ | refine blk_alloc ?_ _)); exact BK509.out⟩, ⟨by (try simp only [hl518004_73]); (with_reducible repeat (first | refine blk_drewN ?_ _ | refine blk_drew ?_ | refine blk_alloc ?_ _)); exact BK517.out⟩, ⟨by (try simp only [hl518004_73]); (with_reducible repeat (first | refine blk_drewN ?_ _ | refine blk_drew ?_ | refine blk_alloc ?_ _)); exact BK529.out⟩, ⟨by (try simp only [hl518004_73]); (with_reducible repeat (first | refine blk_drewN ?_ _ | refine blk_drew ?_ | refine blk_alloc ?_ _)); exact BK569.out⟩, ⟨by repeat (first | (with_reducible first | exact HB.out | apply below_alloc | apply pw_below_drewN | apply below_drew1 | refine below_set ?_ GE489.out | refine below_set ?_ GE509.out | refine below_set ?_ GE517.out | refine below_set ?_ GE529.out | refine below_set ?_ GE569.out) | exact HB.out)⟩⟩
                            · replace c138 := Bool.eq_false_iff.mpr c138
                              subst c138
                              have H1 : (laws_FnExactRecolour.j2 kj73 t548 true t521 t522 t523 t524 t549) = some true := by rw [if_neg (show ¬ (false = true) by decide)] at H; first | done | exact H
                              clear H
                              have H := H1
                              clear H1
                              have H' := Aside0.mk H
                              clear H
                              have hnb149 := NB569_489.out
                              have hnc149 := NB489_569.out
                              have hnb150 := NB569_509.out
                              have hnc150 := NB509_569.out
                              have hnb151 := NB569_517.out
                              have hnc151 := NB517_569.out
                              have hnb152 := NB569_529.out
                              have hnc152 := NB529_569.out
                              have hcz153_0 : w130.cell? ⟨gb569, 0, none⟩ = some (.int .i64 0) := (blk_cell BK569.out 0).trans rfl
                              have hcz153_1 : w130.cell? ⟨gb569, 1, none⟩ = some (.int .i64 0) := (blk_cell BK569.out 1).trans rfl
                              have hcz153_2 : w130.cell? ⟨gb569, 2, none⟩ = some (.int .i64 0) := (blk_cell BK569.out 2).trans rfl
                              have hcz153_3 : w130.cell? ⟨gb569, 3, none⟩ = some (.int .i64 0) := (blk_cell BK569.out 3).trans rfl
                              have hcz153_4 : w130.cell? ⟨gb569, 4, none⟩ = some (.slice none 0 0) := (blk_cell BK569.out 4).trans rfl
                              have hfz153_0 := blk_frozen BK569.out 0
                              have hfz153_1 := blk_frozen BK569.out 1
                              have hfz153_2 := blk_frozen BK569.out 2
                              have hfz153_3 := blk_frozen BK569.out 3
                              have hfz153_4 := blk_frozen BK569.out 4
                              have hnb154 := NB509_489.out
                              have hnc154 := NB489_509.out
                              have hnb155 := NB509_517.out
                              have hnc155 := NB517_509.out
                              have hnb156 := NB509_529.out
                              have hnc156 := NB529_509.out
                              have hcz157_0 : w130.cell? ⟨gb509, 0, none⟩ = some (.int .i64 t501) := (blk_cell BK509.out 0).trans rfl
                              have hcz157_1 : w130.cell? ⟨gb509, 1, none⟩ = some (.int .i64 t502) := (blk_cell BK509.out 1).trans rfl
                              have hcz157_2 : w130.cell? ⟨gb509, 2, none⟩ = some (.int .i64 t503) := (blk_cell BK509.out 2).trans rfl
                              have hcz157_3 : w130.cell? ⟨gb509, 3, none⟩ = some (.int .i64 t504) := (blk_cell BK509.out 3).trans rfl
                              have hcz157_4 : w130.cell? ⟨gb509, 4, none⟩ = some (.slice Ao29 t505.length co29) := (blk_cell BK509.out 4).trans rfl
                              have hfz157_0 := blk_frozen BK509.out 0
                              have hfz157_1 := blk_frozen BK509.out 1
                              have hfz157_2 := blk_frozen BK509.out 2
                              have hfz157_3 := blk_frozen BK509.out 3
                              have hfz157_4 := blk_frozen BK509.out 4
                              go_wp2_with (first | ((with_reducible refine gate_callee (f := 14) rfl ?_); refine goesL_ (some 102) rfl rfl Try.func14 (by kernel_rfl) rfl #[.agg #[.int .i64 t561, .int .i64 t562, .int .i64 t563, .int .i64 t564, .slice Ao136 t565.length co136], .agg #[.int .i64 t501, .int .i64 t502, .int .i64 t503, .int .i64 t504, .slice Ao29 t505.length co29]] rfl (by (try simp only [List.map_toArray, List.map_cons, List.map_nil]); first | done | rfl | (simp only [List.length_drop, List.length_take]; rfl)) ?_; (with_reducible refine (laws_eqPattern.calls kj73 t561 t562 t563 t564 _ _ t565 t501 t502 t503 t504 _ _ t505 false _ ?side1 ?side2 ?side3 ?side4 A137.out).mono ?_); (case side1 => refine (Kd.R_reads' (e := 2) (base := w.heap.size) (ok := fun k_ => (((((True ∧ some k_ ≠ (.slice Ao29 t505.length co29 : Value).ownBlock) ∧ some k_ ≠ (.slice Ao36 t544.length co36 : Value).ownBlock) ∧ some k_ ≠ (.slice Ao46 t525.length co46 : Value).ownBlock) ∧ some k_ ≠ (.slice Ao127 t555.length co127 : Value).ownBlock) ∧ some k_ ≠ (.slice Ao128 t558.length co128 : Value).ownBlock)) (n := t565.length) (c := co136) ?_).2.2; exact (by (with_reducible repeat (first | apply Kd.R_alloc | apply Kd.R_drewN | apply Kd.R_drew)); exact (Kd.R_mono (Kd.R_far (p := ⟨gb569, 4, none⟩) (Kd.R_far (p := ⟨gb569, 3, none⟩) (Kd.R_far (p := ⟨gb569, 2, none⟩) (Kd.R_far (p := ⟨gb569, 1, none⟩) (Kd.R_far (p := ⟨gb569, 0, none⟩) (Kd.R_types HO567.out BK569.out (by decide)) (fun _ hk => hk.2) (.int .i64 t561)) (fun _ hk => hk.2) (.int .i64 t562)) (fun _ hk => hk.2) (.int .i64 t563)) (fun _ hk => hk.2) (.int .i64 t564)) (fun _ hk => hk.2) (.slice Ao136 t565.length co136)) (fun _ h_ => h_.1)))); (case side2 => exact (Kd.R_reads' HO567.out).2.1); (case side3 => refine (Kd.R_reads' (e := 2) (base := w.heap.size) (ok := fun k_ => ((((some k_ ≠ (.slice Ao36 t544.length co36 : Value).ownBlock ∧ some k_ ≠ (.slice Ao46 t525.length co46 : Value).ownBlock) ∧ some k_ ≠ (.slice Ao127 t555.length co127 : Value).ownBlock) ∧ some k_ ≠ (.slice Ao128 t558.length co128 : Value).ownBlock) ∧ some k_ ≠ (.slice Ao136 t565.length co136 : Value).ownBlock)) (n := t505.length) (c := co29) ?_).2.2; exact (by (with_reducible repeat (first | apply Kd.R_alloc | apply Kd.R_drewN | apply Kd.R_drew)); exact (Kd.R_mono (Kd.R_far (p := ⟨gb569, 4, none⟩) (Kd.R_far (p := ⟨gb569, 3, none⟩) (Kd.R_far (p := ⟨gb569, 2, none⟩) (Kd.R_far (p := ⟨gb569, 1, none⟩) (Kd.R_far (p := ⟨gb569, 0, none⟩) (Kd.R_types HO_510004.out BK569.out (by decide)) (fun _ hk => hk.2) (.int .i64 t561)) (fun _ hk => hk.2) (.int .i64 t562)) (fun _ hk => hk.2) (.int .i64 t563)) (fun _ hk => hk.2) (.int .i64 t564)) (fun _ hk => hk.2) (.slice Ao136 t565.length co136)) (fun _ h_ => h_.1)))); (case side4 => exact (Kd.R_reads' HO_510004.out).2.1); rintro e w158 ⟨rfl, hb⟩; refine ⟨_, rfl, ?_⟩; have n0_ := Aside0.mk (Kd.R_below (by (with_reducible repeat (first | apply Kd.R_alloc | apply Kd.R_drewN | apply Kd.R_drew)); exact (Kd.R_mono (Kd.R_far (p := ⟨gb569, 4, none⟩) (Kd.R_far (p := ⟨gb569, 3, none⟩) (Kd.R_far (p := ⟨gb569, 2, none⟩) (Kd.R_far (p := ⟨gb569, 1, none⟩) (Kd.R_far (p := ⟨gb569, 0, none⟩) (Kd.R_types HO_510004.out BK569.out (by decide)) (fun _ hk => hk.2) (.int .i64 t561)) (fun _ hk => hk.2) (.int .i64 t562)) (fun _ hk => hk.2) (.int .i64 t563)) (fun _ hk => hk.2) (.int .i64 t564)) (fun _ hk => hk.2) (.slice Ao136 t565.length co136)) (fun _ h_ => h_.1))) hb); have n1_ := Aside0.mk (Kd.R_below (by (with_reducible repeat (first | apply Kd.R_alloc | apply Kd.R_drewN | apply Kd.R_drew)); exact (Kd.R_mono (Kd.R_far (p := ⟨gb569, 4, none⟩) (Kd.R_far (p := ⟨gb569, 3, none⟩) (Kd.R_far (p := ⟨gb569, 2, none⟩) (Kd.R_far (p := ⟨gb569, 1, none⟩) (Kd.R_far (p := ⟨gb569, 0, none⟩) (Kd.R_types HO_518004.out BK569.out (by decide)) (fun _ hk => hk.2) (.int .i64 t561)) (fun _ hk => hk.2) (.int .i64 t562)) (fun _ hk => hk.2) (.int .i64 t563)) (fun _ hk => hk.2) (.int .i64 t564)) (fun _ hk => hk.2) (.slice Ao136 t565.length co136)) (fun _ h_ => h_.1))) hb); have n2_ := Aside0.mk (Kd.R_below (by (with_reducible repeat (first | apply Kd.R_alloc | apply Kd.R_drewN | apply Kd.R_drew)); exact (Kd.R_mono (Kd.R_far (p := ⟨gb569, 4, none⟩) (Kd.R_far (p := ⟨gb569, 3, none⟩) (Kd.R_far (p := ⟨gb569, 2, none⟩) (Kd.R_far (p := ⟨gb569, 1, none⟩) (Kd.R_far (p := ⟨gb569, 0, none⟩) (Kd.R_types HO_530004.out BK569.out (by decide)) (fun _ hk => hk.2) (.int .i64 t561)) (fun _ hk => hk.2) (.int .i64 t562)) (fun _ hk => hk.2) (.int .i64 t563)) (fun _ hk => hk.2) (.int .i64 t564)) (fun _ hk => hk.2) (.slice Ao136 t565.length co136)) (fun _ h_ => h_.1))) hb); have n3_ := Aside0.mk (Kd.R_below (by (with_reducible repeat (first | apply Kd.R_alloc | apply Kd.R_drewN | apply Kd.R_drew)); exact (Kd.R_mono (Kd.R_far (p := ⟨gb569, 4, none⟩) (Kd.R_far (p := ⟨gb569, 3, none⟩) (Kd.R_far (p := ⟨gb569, 2, none⟩) (Kd.R_far (p := ⟨gb569, 1, none⟩) (Kd.R_far (p := ⟨gb569, 0, none⟩) (Kd.R_types HO557.out BK569.out (by decide)) (fun _ hk => hk.2) (.int .i64 t561)) (fun _ hk => hk.2) (.int .i64 t562)) (fun _ hk => hk.2) (.int .i64 t563)) (fun _ hk => hk.2) (.int .i64 t564)) (fun _ hk => hk.2) (.slice Ao136 t565.length co136)) (fun _ h_ => h_.1))) hb); have n4_ := Aside0.mk (Kd.R_below (by (with_reducible repeat (first | apply Kd.R_alloc | apply Kd.R_drewN | apply Kd.R_drew)); exact (Kd.R_mono (Kd.R_far (p := ⟨gb569, 4, none⟩) (Kd.R_far (p := ⟨gb569, 3, none⟩) (Kd.R_far (p := ⟨gb569, 2, none⟩) (Kd.R_far (p := ⟨gb569, 1, none⟩) (Kd.R_far (p := ⟨gb569, 0, none⟩) (Kd.R_types HO560.out BK569.out (by decide)) (fun _ hk => hk.2) (.int .i64 t561)) (fun _ hk => hk.2) (.int .i64 t562)) (fun _ hk => hk.2) (.int .i64 t563)) (fun _ hk => hk.2) (.int .i64 t564)) (fun _ hk => hk.2) (.slice Ao136 t565.length co136)) (fun _ h_ => h_.1))) hb); have n5_ := Aside0.mk (Kd.R_below (by (with_reducible repeat (first | apply Kd.R_alloc | apply Kd.R_drewN | apply Kd.R_drew)); exact (Kd.R_mono (Kd.R_far (p := ⟨gb569, 4, none⟩) (Kd.R_far (p := ⟨gb569, 3, none⟩) (Kd.R_far (p := ⟨gb569, 2, none⟩) (Kd.R_far (p := ⟨gb569, 1, none⟩) (Kd.R_far (p := ⟨gb569, 0, none⟩) (Kd.R_types HO567.out BK569.out (by decide)) (fun _ hk => hk.2) (.int .i64 t561)) (fun _ hk => hk.2) (.int .i64 t562)) (fun _ hk => hk.2) (.int .i64 t563)) (fun _ hk => hk.2) (.int .i64 t564)) (fun _ hk => hk.2) (.slice Ao136 t565.length co136)) (fun _ h_ => h_.1))) hb); have n6_ := Aside0.mk (blk_below (g := gb489) (o := .cells #[.int .i64 a0_0, .int .i64 a0_1, .int .i64 a0_2, .int .i64 a0_3, .slice A0_4 l0_4.length c0_4] 26 (0, 0)) (by (with_reducible repeat (first | refine blk_drewN ?_ _ | refine blk_drew ?_ | refine blk_alloc ?_ _)); refine blk_far ?_ NB489_569.out _; (with_reducible repeat (first | refine blk_drewN ?_ _ | refine blk_drew ?_ | refine blk_alloc ?_ _)); refine blk_far ?_ NB489_569.out _; (with_reducible repeat (first | refine blk_drewN ?_ _ | refine blk_drew ?_ | refine blk_alloc ?_ _)); refine blk_far ?_ NB489_569.out _; (with_reducible repeat (first | refine blk_drewN ?_ _ | refine blk_drew ?_ | refine blk_alloc ?_ _)); refine blk_far ?_ NB489_569.out _; (with_reducible repeat (first | refine blk_drewN ?_ _ | refine blk_drew ?_ | refine blk_alloc ?_ _)); refine blk_far ?_ NB489_569.out _; (with_reducible repeat (first | refine blk_drewN ?_ _ | refine blk_drew ?_ | refine blk_alloc ?_ _)); exact BK489.out) hb); have n7_ := Aside0.mk (blk_below (g := gb509) (o := .cells #[.int .i64 t501, .int .i64 t502, .int .i64 t503, .int .i64 t504, .slice Ao29 t505.length co29] 31 (0, 0)) (by (with_reducible repeat (first | refine blk_drewN ?_ _ | refine blk_drew ?_ | refine blk_alloc ?_ _)); refine blk_far ?_ NB509_569.out _; (with_reducible repeat (first | refine blk_drewN ?_ _ | refine blk_drew ?_ | refine blk_alloc ?_ _)); refine blk_far ?_ NB509_569.out _; (with_reducible repeat (first | refine blk_drewN ?_ _ | refine blk_drew ?_ | refine blk_alloc ?_ _)); refine blk_far ?_ NB509_569.out _; (with_reducible repeat (first | refine blk_drewN ?_ _ | refine blk_drew ?_ | refine blk_alloc ?_ _)); refine blk_far ?_ NB509_569.out _; (with_reducible repeat (first | refine blk_drewN ?_ _ | refine blk_drew ?_ | refine blk_alloc ?_ _)); refine blk_far ?_ NB509_569.out _; (with_reducible repeat (first | refine blk_drewN ?_ _ | refine blk_drew ?_ | refine blk_alloc ?_ _)); exact BK509.out) hb); have n8_ := Aside0.mk (blk_below (g := gb517) (o := .cells #[.int .i64 t510, .int .i64 t511, .int .i64 t512, .int .i64 t513, .slice Ao36 t544.length co36] 31 (0, 0)) (by (with_reducible repeat (first | refine blk_drewN ?_ _ | refine blk_drew ?_ | refine blk_alloc ?_ _)); refine blk_far ?_ NB517_569.out _; (with_reducible repeat (first | refine blk_drewN ?_ _ | refine blk_drew ?_ | refine blk_alloc ?_ _)); refine blk_far ?_ NB517_569.out _; (with_reducible repeat (first | refine blk_drewN ?_ _ | refine blk_drew ?_ | refine blk_alloc ?_ _)); refine blk_far ?_ NB517_569.out _; (with_reducible repeat (first | refine blk_drewN ?_ _ | refine blk_drew ?_ | refine blk_alloc ?_ _)); refine blk_far ?_ NB517_569.out _; (with_reducible repeat (first | refine blk_drewN ?_ _ | refine blk_drew ?_ | refine blk_alloc ?_ _)); refine blk_far ?_ NB517_569.out _; (with_reducible repeat (first | refine blk_drewN ?_ _ | refine blk_drew ?_ | refine blk_alloc ?_ _)); exact BK517.out) hb); have n9_ := Aside0.mk (blk_below (g := gb529) (o := .cells #[.int .i64 t521, .int .i64 t522, .int .i64 t523, .int .i64 t524, .slice Ao46 t525.length co46] 31 (0, 0)) (by (with_reducible repeat (first | refine blk_drewN ?_ _ | refine blk_drew ?_ | refine blk_alloc ?_ _)); refine blk_far ?_ NB529_569.out _; (with_reducible repeat (first | refine blk_drewN ?_ _ | refine blk_drew ?_ | refine blk_alloc ?_ _)); refine blk_far ?_ NB529_569.out _; (with_reducible repeat (first | refine blk_drewN ?_ _ | refine blk_drew ?_ | refine blk_alloc ?_ _)); refine blk_far ?_ NB529_569.out _; (with_reducible repeat (first | refine blk_drewN ?_ _ | refine blk_drew ?_ | refine blk_alloc ?_ _)); refine blk_far ?_ NB529_569.out _; (with_reducible repeat (first | refine blk_drewN ?_ _ | refine blk_drew ?_ | refine blk_alloc ?_ _)); refine blk_far ?_ NB529_569.out _; (with_reducible repeat (first | refine blk_drewN ?_ _ | refine blk_drew ?_ | refine blk_alloc ?_ _)); exact BK529.out) hb); have n10_ := Aside0.mk (blk_below (g := gb569) (o := .cells #[.int .i64 t561, .int .i64 t562, .int .i64 t563, .int .i64 t564, .slice Ao136 t565.length co136] 31 (0, 0)) (by (with_reducible repeat (first | refine blk_drewN ?_ _ | refine blk_drew ?_ | refine blk_alloc ?_ _)); refine blk_put (cs := #[.int .i64 t561, .int .i64 t562, .int .i64 t563, .int .i64 t564, .slice none 0 0]) ?_ 4 _ rfl; (with_reducible repeat (first | refine blk_drewN ?_ _ | refine blk_drew ?_ | refine blk_alloc ?_ _)); refine blk_put (cs := #[.int .i64 t561, .int .i64 t562, .int .i64 t563, .int .i64 0, .slice none 0 0]) ?_ 3 _ rfl; (with_reducible repeat (first | refine blk_drewN ?_ _ | refine blk_drew ?_ | refine blk_alloc ?_ _)); refine blk_put (cs := #[.int .i64 t561, .int .i64 t562, .int .i64 0, .int .i64 0, .slice none 0 0]) ?_ 2 _ rfl; (with_reducible repeat (first | refine blk_drewN ?_ _ | refine blk_drew ?_ | refine blk_alloc ?_ _)); refine blk_put (cs := #[.int .i64 t561, .int .i64 0, .int .i64 0, .int .i64 0, .slice none 0 0]) ?_ 1 _ rfl; (with_reducible repeat (first | refine blk_drewN ?_ _ | refine blk_drew ?_ | refine blk_alloc ?_ _)); refine blk_put (cs := #[.int .i64 0, .int .i64 0, .int .i64 0, .int .i64 0, .slice none 0 0]) ?_ 0 _ rfl; (with_reducible repeat (first | refine blk_drewN ?_ _ | refine blk_drew ?_ | refine blk_alloc ?_ _)); exact BK569.out) hb); have n11_ := Aside0.mk (below_step (by repeat (first | (with_reducible first | exact HB.out | apply below_alloc | apply pw_below_drewN | apply below_drew1 | refine below_set ?_ GE489.out | refine below_set ?_ GE509.out | refine below_set ?_ GE517.out | refine below_set ?_ GE529.out | refine below_set ?_ GE569.out) | exact HB.out)) hb); clear HO_510004; clear HO_518004; clear HO_530004; clear HO557; clear HO560; clear HO567; clear BK489; clear BK509; clear BK517; clear BK529; clear BK569; clear HB; have HO_510004 := n0_; have HO_518004 := n1_; have HO_530004 := n2_; have HO557 := n3_; have HO560 := n4_; have HO567 := n5_; have BK489 := n6_; have BK509 := n7_; have BK517 := n8_; have BK529 := n9_; have BK569 := n10_; have HB := n11_; clear n0_ n1_ n2_ n3_ n4_ n5_ n6_ n7_ n8_ n9_ n10_ n11_; (try clear hb); (try clear hb2); (try clear hk); (try clear hi)))
                              go_meet
                              case rel => exact ⟨_, (true), (by first | rfl | (simp; done) | (simp [*]; done)), H', ⟨by have := HJ15.out; have := HJ73.out; first | omega | exact Nat.le_refl _⟩, ⟨by (try simp only [hl518004_73]); (with_reducible repeat (first | apply Kd.R_alloc | apply Kd.R_drewN | apply Kd.R_drew)); exact Kd.R_mono HO_510004.out (fun _ hk => ⟨hk.1.1.1.1, ⟨hk.1.1.1.2, hk.2⟩⟩)⟩, ⟨by (try simp only [hl518004_73]); (with_reducible repeat (first | apply Kd.R_alloc | apply Kd.R_drewN | apply Kd.R_drew)); exact Kd.R_mono HO_518004.out (fun _ hk => ⟨hk.1.1.1.1, ⟨hk.1.1.1.2, hk.2⟩⟩)⟩, ⟨by (try simp only [hl518004_73]); (with_reducible repeat (first | apply Kd.R_alloc | apply Kd.R_drewN | apply Kd.R_drew)); exact Kd.R_mono HO_530004.out (fun _ hk => ⟨hk.1.1.1.1, ⟨hk.1.1.1.2, hk.2⟩⟩)⟩, ⟨by (try simp only [hl518004_73]); (with_reducible repeat (first | apply Kd.R_alloc | apply Kd.R_drewN | apply Kd.R_drew)); exact Kd.R_mono HO567.out (fun _ hk => ⟨hk.1.1.1.1.2, ⟨hk.1.1.1.2, hk.1.1.2⟩⟩)⟩, ⟨by (try simp only [hl518004_73]); (with_reducible repeat (first | refine blk_drewN ?_ _ | refine blk_drew ?_ | refine blk_alloc ?_ _)); exact BK489.out⟩, ⟨by (try simp only [hl518004_73]); (with_reducible repeat (first | refine blk_drewN ?_ _ | refine blk_drew ?_ | refine blk_alloc ?_ _)); exact BK509.out⟩, ⟨by (try simp only [hl518004_73]); (with_reducible repeat (first | refine blk_drewN ?_ _ | refine blk_drew ?_ | refine blk_alloc ?_ _)); exact BK517.out⟩, ⟨by (try simp only [hl518004_73]); (with_reducible repeat (first | refine blk_drewN ?_ _ | refine blk_drew ?_ | refine blk_alloc ?_ _)); exact BK529.out⟩, ⟨by (try simp only [hl518004_73]); (with_reducible repeat (first | refine blk_drewN ?_ _ | refine blk_drew ?_ | refine blk_alloc ?_ _)); exact BK569.out⟩, ⟨by repeat (first | (with_reducible first | exact HB.out | apply below_alloc | apply pw_below_drewN | apply below_drew1 | refine below_set ?_ GE489.out | refine below_set ?_ GE509.out | refine below_set ?_ GE517.out | refine below_set ?_ GE529.out | refine below_set ?_ GE569.out) | exact HB.out)⟩⟩
                          case rest =>
                            clear HC114
                            try clear c1
                            try clear c2
                            try clear p2
                            try clear c3
                            try clear c3b0
                            try clear c3b1
                            try clear c4
                            try clear c5
                            try clear c6
                            try clear c6b0
                            try clear c7
                            try clear c8
                            try clear c9
                            try clear c10
                            try clear c11
                            try clear c12
                            try clear c13
                            try clear c14
                            try clear c15
                            try clear c17
                            try clear c18
                            try clear c19
                            try clear c27
                            try clear c29
                            try clear c30
                            try clear c31
                            try clear c32
                            try clear c33
                            try clear c34
                            try clear c42
                            try clear c43
                            try clear c44
                            try clear c48
                            try clear c49
                            try clear c50
                            try clear c51
                            try clear c53
                            try clear c54
                            try clear c57
                            try clear c58
                            try clear c59
                            try clear c61
                            try clear c62
                            try clear c65
                            try clear c68
                            try clear c71
                            try clear c81
                            try clear c82
                            try clear c83
                            try clear c87
                            try clear c87b0
                            try clear c89
                            try clear c90
                            try clear c91
                            try clear c92
                            try clear c94
                            try clear c95
                            try clear c98
                            try clear c99
                            try clear c100
                            try clear c102
                            try clear c103
                            try clear c106
                            try clear c109
                            try clear c109b0
                            try clear c110
                            try clear c110b0
                            try clear c110b1
                            try clear c115
                            try clear c116
                            try clear c117
                            try clear c122
                            try clear c123
                            try clear c131
                            try clear c132
                            try clear c133
                            try clear c134
                            try clear c138
                            try clear c139
                            try clear c140
                            try clear c141
                            try clear c142
                            try clear c144
                            try clear c145
                            try clear c146
                            try clear c149
                            try clear c150
                            try clear c151
                            try clear c152
                            try clear c154
                            try clear c155
                            try clear c156
                            try clear hcz101_0
                            try clear hcz101_1
                            try clear hcz101_2
                            try clear hcz101_3
                            try clear hcz101_4
                            try clear hcz104_0
                            try clear hcz104_1
                            try clear hcz104_2
                            try clear hcz104_3
                            try clear hcz104_4
                            try clear hcz118_0
                            try clear hcz118_1
                            try clear hcz118_2
                            try clear hcz118_3
                            try clear hcz118_4
                            try clear hcz120_0
                            try clear hcz120_1
                            try clear hcz120_2
                            try clear hcz120_3
                            try clear hcz120_4
                            try clear hcz124_0
                            try clear hcz124_1
                            try clear hcz124_2
                            try clear hcz124_3
                            try clear hcz124_4
                            try clear hcz135_0
                            try clear hcz135_1
                            try clear hcz135_2
                            try clear hcz135_3
                            try clear hcz135_4
                            try clear hcz143_0
                            try clear hcz143_1
                            try clear hcz143_2
                            try clear hcz143_3
                            try clear hcz143_4
                            try clear hcz147_0
                            try clear hcz147_1
                            try clear hcz147_2
                            try clear hcz147_3
                            try clear hcz147_4
                            try clear hcz153_0
                            try clear hcz153_1
                            try clear hcz153_2
                            try clear hcz153_3
                            try clear hcz153_4
                            try clear hcz157_0
                            try clear hcz157_1
                            try clear hcz157_2
                            try clear hcz157_3
                            try clear hcz157_4
                            try clear hcz18_0
                            try clear hcz18_1
                            try clear hcz18_2
                            try clear hcz18_3
                            try clear hcz18_4
                            try clear hcz20_0
                            try clear hcz20_1
                            try clear hcz20_2
                            try clear hcz20_3
                            try clear hcz20_4
                            try clear hcz28_0
                            try clear hcz28_1
                            try clear hcz28_2
                            try clear hcz28_3
                            try clear hcz28_4
                            try clear hcz30_0
                            try clear hcz30_1
                            try clear hcz30_2
                            try clear hcz30_3
                            try clear hcz30_4
                            try clear hcz35_0
                            try clear hcz35_1
                            try clear hcz35_2
                            try clear hcz35_3
                            try clear hcz35_4
                            try clear hcz38_0
                            try clear hcz38_1
                            try clear hcz38_2
                            try clear hcz38_3
                            try clear hcz38_4
                            try clear hcz45_0
                            try clear hcz45_1
                            try clear hcz45_2
                            try clear hcz45_3
                            try clear hcz45_4
                            try clear hcz52_0
                            try clear hcz52_1
                            try clear hcz52_2
                            try clear hcz52_3
                            try clear hcz52_4
                            try clear hcz55_0
                            try clear hcz55_1
                            try clear hcz55_2
                            try clear hcz55_3
                            try clear hcz55_4
                            try clear hcz60_0
                            try clear hcz60_1
                            try clear hcz60_2
                            try clear hcz60_3
                            try clear hcz60_4
                            try clear hcz63_0
                            try clear hcz63_1
                            try clear hcz63_2
                            try clear hcz63_3
                            try clear hcz63_4
                            try clear hcz84_0
                            try clear hcz84_1
                            try clear hcz84_2
                            try clear hcz84_3
                            try clear hcz84_4
                            try clear hcz8_0
                            try clear hcz8_1
                            try clear hcz8_2
                            try clear hcz8_3
                            try clear hcz8_4
                            try clear hcz93_0
                            try clear hcz93_1
                            try clear hcz93_2
                            try clear hcz93_3
                            try clear hcz93_4
                            try clear hcz96_0
                            try clear hcz96_1
                            try clear hcz96_2
                            try clear hcz96_3
                            try clear hcz96_4
                            try clear hfz101_0
                            try clear hfz101_1
                            try clear hfz101_2
                            try clear hfz101_3
                            try clear hfz101_4
                            try clear hfz104_0
                            try clear hfz104_1
                            try clear hfz104_2
                            try clear hfz104_3
                            try clear hfz104_4
                            try clear hfz118_0
                            try clear hfz118_1
                            try clear hfz118_2
                            try clear hfz118_3
                            try clear hfz118_4
                            try clear hfz120_0
                            try clear hfz120_1
                            try clear hfz120_2
                            try clear hfz120_3
                            try clear hfz120_4
                            try clear hfz124_0
                            try clear hfz124_1
                            try clear hfz124_2
                            try clear hfz124_3
                            try clear hfz124_4
                            try clear hfz135_0
                            try clear hfz135_1
                            try clear hfz135_2
                            try clear hfz135_3
                            try clear hfz135_4
                            try clear hfz143_0
                            try clear hfz143_1
                            try clear hfz143_2
                            try clear hfz143_3
                            try clear hfz143_4
                            try clear hfz147_0
                            try clear hfz147_1
                            try clear hfz147_2
                            try clear hfz147_3
                            try clear hfz147_4
                            try clear hfz153_0
                            try clear hfz153_1
                            try clear hfz153_2
                            try clear hfz153_3
                            try clear hfz153_4
                            try clear hfz157_0
                            try clear hfz157_1
                            try clear hfz157_2
                            try clear hfz157_3
                            try clear hfz157_4
                            try clear hfz18_0
                            try clear hfz18_1
                            try clear hfz18_2
                            try clear hfz18_3
                            try clear hfz18_4
                            try clear hfz20_0
                            try clear hfz20_1
                            try clear hfz20_2
                            try clear hfz20_3
                            try clear hfz20_4
                            try clear hfz28_0
                            try clear hfz28_1
                            try clear hfz28_2
                            try clear hfz28_3
                            try clear hfz28_4
                            try clear hfz30_0
                            try clear hfz30_1
                            try clear hfz30_2
                            try clear hfz30_3
                            try clear hfz30_4
                            try clear hfz35_0
                            try clear hfz35_1
                            try clear hfz35_2
                            try clear hfz35_3
                            try clear hfz35_4
                            try clear hfz38_0
                            try clear hfz38_1
                            try clear hfz38_2
                            try clear hfz38_3
                            try clear hfz38_4
                            try clear hfz45_0
                            try clear hfz45_1
                            try clear hfz45_2
                            try clear hfz45_3
                            try clear hfz45_4
                            try clear hfz52_0
                            try clear hfz52_1
                            try clear hfz52_2
                            try clear hfz52_3
                            try clear hfz52_4
                            try clear hfz55_0
                            try clear hfz55_1
                            try clear hfz55_2
                            try clear hfz55_3
                            try clear hfz55_4
                            try clear hfz60_0
                            try clear hfz60_1
                            try clear hfz60_2
                            try clear hfz60_3
                            try clear hfz60_4
                            try clear hfz63_0
                            try clear hfz63_1
                            try clear hfz63_2
                            try clear hfz63_3
                            try clear hfz63_4
                            try clear hfz84_0
                            try clear hfz84_1
                            try clear hfz84_2
                            try clear hfz84_3
                            try clear hfz84_4
                            try clear hfz8_0
                            try clear hfz8_1
                            try clear hfz8_2
                            try clear hfz8_3
                            try clear hfz8_4
                            try clear hfz93_0
                            try clear hfz93_1
                            try clear hfz93_2
                            try clear hfz93_3
                            try clear hfz93_4
                            try clear hfz96_0
                            try clear hfz96_1
                            try clear hfz96_2
                            try clear hfz96_3
                            try clear hfz96_4
                            try clear p2
                            obtain ⟨kq, x108_113, rfl, HA, HJ113, HO_510004, HO_518004, HO_530004, HO_570004, BK489, BK509, BK517, BK529, BK569, HB⟩ := hcut
                            have hl530004_113 := (Kd.R_reads' HO_530004.out).1
                            rw [hl530004_113] at HO_530004
                            (try simp only [hl530004_113])
                            (try simp only [hl530004_113] at BK489)
                            (try simp only [hl530004_113] at BK509)
                            (try simp only [hl530004_113] at BK517)
                            (try simp only [hl530004_113] at BK529)
                            (try simp only [hl530004_113] at BK569)
                            (try simp only [hl530004_113] at HO_510004)
                            (try simp only [hl530004_113] at HO_518004)
                            (try simp only [hl530004_113] at HO_570004)
                            cases kq with
                            | zero => exact absurd HA.out (by simp [laws_FnExactRecolour.j2])
                            | succ kj113 =>
                              have H := HA.out
                              clear HA
                              simp only [laws_FnExactRecolour.j2] at H
                              by_cases c159 : x108_113 = true
                              · subst c159
                                have H1 : (some false) = some true := by rw [if_pos rfl] at H; first | done | exact H
                                clear H
                                have H := H1
                                clear H1
                                exact absurd H (by simp)
                              · replace c159 := Bool.eq_false_iff.mpr c159
                                subst c159
                                have H1 : ((laws_heldPattern.f kj113 t521 t522 t523 t524 t549 1).bind fun t571 => (if t571 < 0 then (some false) else (if t571 = t548 then (some true) else (some false)))) = some true := by rw [if_neg (show ¬ (false = true) by decide)] at H; first | done | exact H
                                clear H
                                have H := H1
                                clear H1
                                replace H := Option.bind_eq_some_iff.mp H
                                obtain ⟨t571, A1600, H⟩ := H
                                replace H : (if t571 < 0 then (some false) else (if t571 = t548 then (some true) else (some false))) = some true := H
                                have A160 := Aside0.mk A1600
                                clear A1600
                                by_cases c161 : t571 < 0
                                · rw [if_pos c161] at H
                                  have c161b0 : decide (t571 < 0) = true := decide_eq_true c161
                                  clear c161
                                  exact absurd H (by simp)
                                · rw [if_neg c161] at H
                                  have c161b0 : decide (t571 < 0) = false := decide_eq_false c161
                                  clear c161
                                  by_cases c162 : t571 = t548
                                  · rw [if_pos c162] at H
                                    have c162b0 : (t571 == t548) = true := beq_iff_eq.mpr c162
                                    have c162b1 : (t571 != t548) = false := bne_eq_false_iff_eq.mpr c162
                                    clear c162
                                    clear H
                                    have hnb163 := NB529_489.out
                                    have hnc163 := NB489_529.out
                                    have hnb164 := NB529_509.out
                                    have hnc164 := NB509_529.out
                                    have hnb165 := NB529_517.out
                                    have hnc165 := NB517_529.out
                                    have hnb166 := NB529_569.out
                                    have hnc166 := NB569_529.out
                                    have hcz167_0 : wc.cell? ⟨gb529, 0, none⟩ = some (.int .i64 t521) := (blk_cell BK529.out 0).trans rfl
                                    have hcz167_1 : wc.cell? ⟨gb529, 1, none⟩ = some (.int .i64 t522) := (blk_cell BK529.out 1).trans rfl
                                    have hcz167_2 : wc.cell? ⟨gb529, 2, none⟩ = some (.int .i64 t523) := (blk_cell BK529.out 2).trans rfl
                                    have hcz167_3 : wc.cell? ⟨gb529, 3, none⟩ = some (.int .i64 t524) := (blk_cell BK529.out 3).trans rfl
                                    have hcz167_4 : wc.cell? ⟨gb529, 4, none⟩ = some (.slice Ao46 t549.length co46) := (blk_cell BK529.out 4).trans rfl
                                    have hfz167_0 := blk_frozen BK529.out 0
                                    have hfz167_1 := blk_frozen BK529.out 1
                                    have hfz167_2 := blk_frozen BK529.out 2
                                    have hfz167_3 := blk_frozen BK529.out 3
                                    have hfz167_4 := blk_frozen BK529.out 4
                                    go_wp2_with (first | ((with_reducible refine gate_callee (f := 32) rfl ?_); refine goesL_ (some 111) rfl rfl Try.func32 (by kernel_rfl) rfl #[.agg #[.int .i64 t521, .int .i64 t522, .int .i64 t523, .int .i64 t524, .slice Ao46 t549.length co46], .int .i64 1] rfl (by (try simp only [List.map_toArray, List.map_cons, List.map_nil]); first | done | rfl | (simp only [List.length_drop, List.length_take]; rfl)) ?_; (with_reducible refine (laws_heldPattern.calls kj113 t521 t522 t523 t524 _ _ t549 1 t571 _ ?side1 ?side2 A160.out).mono ?_); (case side1 => repeat (first | exact (Kd.R_reads' HO_530004.out).2.2 | (with_reducible refine Kd.C_alloc ?_ _) | (with_reducible refine Kd.C_drewN ?_ _) | (with_reducible refine Kd.C_drew ?_))); (case side2 => exact (Kd.R_reads' HO_530004.out).2.1); rintro e w168 ⟨rfl, hb⟩; refine ⟨_, rfl, ?_⟩; have n0_ := Aside0.mk (Kd.R_below (by (with_reducible repeat (first | apply Kd.R_alloc | apply Kd.R_drewN | apply Kd.R_drew)); exact HO_510004.out) hb); have n1_ := Aside0.mk (Kd.R_below (by (with_reducible repeat (first | apply Kd.R_alloc | apply Kd.R_drewN | apply Kd.R_drew)); exact HO_518004.out) hb); have n2_ := Aside0.mk (Kd.R_below (by (with_reducible repeat (first | apply Kd.R_alloc | apply Kd.R_drewN | apply Kd.R_drew)); exact HO_530004.out) hb); have n3_ := Aside0.mk (Kd.R_below (by (with_reducible repeat (first | apply Kd.R_alloc | apply Kd.R_drewN | apply Kd.R_drew)); exact HO_570004.out) hb); have n4_ := Aside0.mk (blk_below (g := gb489) (o := .cells #[.int .i64 a0_0, .int .i64 a0_1, .int .i64 a0_2, .int .i64 a0_3, .slice A0_4 l0_4.length c0_4] 26 (0, 0)) (by (with_reducible repeat (first | refine blk_drewN ?_ _ | refine blk_drew ?_ | refine blk_alloc ?_ _)); exact BK489.out) hb); have n5_ := Aside0.mk (blk_below (g := gb509) (o := .cells #[.int .i64 t501, .int .i64 t502, .int .i64 t503, .int .i64 t504, .slice Ao29 t505.length co29] 31 (0, 0)) (by (with_reducible repeat (first | refine blk_drewN ?_ _ | refine blk_drew ?_ | refine blk_alloc ?_ _)); exact BK509.out) hb); have n6_ := Aside0.mk (blk_below (g := gb517) (o := .cells #[.int .i64 t510, .int .i64 t511, .int .i64 t512, .int .i64 t513, .slice Ao36 t544.length co36] 31 (0, 0)) (by (with_reducible repeat (first | refine blk_drewN ?_ _ | refine blk_drew ?_ | refine blk_alloc ?_ _)); exact BK517.out) hb); have n7_ := Aside0.mk (blk_below (g := gb529) (o := .cells #[.int .i64 t521, .int .i64 t522, .int .i64 t523, .int .i64 t524, .slice Ao46 t549.length co46] 31 (0, 0)) (by (with_reducible repeat (first | refine blk_drewN ?_ _ | refine blk_drew ?_ | refine blk_alloc ?_ _)); exact BK529.out) hb); have n8_ := Aside0.mk (blk_below (g := gb569) (o := .cells #[.int .i64 t561, .int .i64 t562, .int .i64 t563, .int .i64 t564, .slice Ao136 t565.length co136] 31 (0, 0)) (by (with_reducible repeat (first | refine blk_drewN ?_ _ | refine blk_drew ?_ | refine blk_alloc ?_ _)); exact BK569.out) hb); have n9_ := Aside0.mk (below_step (by repeat (first | (with_reducible first | exact HB.out | apply below_alloc | apply pw_below_drewN | apply below_drew1 | refine below_set ?_ GE489.out | refine below_set ?_ GE509.out | refine below_set ?_ GE517.out | refine below_set ?_ GE529.out | refine below_set ?_ GE569.out) | exact HB.out)) hb); clear HO_510004; clear HO_518004; clear HO_530004; clear HO_570004; clear BK489; clear BK509; clear BK517; clear BK529; clear BK569; clear HB; have HO_510004 := n0_; have HO_518004 := n1_; have HO_530004 := n2_; have HO_570004 := n3_; have BK489 := n4_; have BK509 := n5_; have BK517 := n6_; have BK529 := n7_; have BK569 := n8_; have HB := n9_; clear n0_ n1_ n2_ n3_ n4_ n5_ n6_ n7_ n8_ n9_; (try clear hb); (try clear hb2); (try clear hk); (try clear hi)))
                                    go_ret
                                    exact ⟨by first | rfl | (simp [errW_none, errW_some] <;> rfl) | (simp [*, errW_none, errW_some] <;> rfl), by repeat (first | (with_reducible first | exact HB.out | apply below_alloc | apply pw_below_drewN | apply below_drew1 | refine below_set ?_ GE489.out | refine below_set ?_ GE509.out | refine below_set ?_ GE517.out | refine below_set ?_ GE529.out | refine below_set ?_ GE569.out) | exact HB.out)⟩
                                  · rw [if_neg c162] at H
                                    have c162b0 : (t571 == t548) = false := beq_eq_false_iff_ne.mpr c162
                                    have c162b1 : (t571 != t548) = true := bne_iff_ne.mpr c162
                                    exact absurd H (by simp)
                        · rw [if_neg c110] at H
                          have c110b0 : (t550 == t548) = false := beq_eq_false_iff_ne.mpr c110
                          have c110b1 : (t550 != t548) = true := bne_iff_ne.mpr c110
                          exact absurd H (by simp)
              · replace c71 := Bool.eq_false_iff.mpr c71
                subst c71
                have H1 : (some false) = some true := by rw [if_neg (show ¬ (false = true) by decide)] at H; first | done | exact H
                clear H
                have H := H1
                clear H1
                exact absurd H (by simp)
            · replace c68 := Bool.eq_false_iff.mpr c68
              subst c68
              have H1 : (some false) = some true := by rw [if_neg (show ¬ (false = true) by decide)] at H; first | done | exact H
              clear H
              have H := H1
              clear H1
              exact absurd H (by simp)

/-- The one plain statement of laws_FnExactRecolour. -/
def laws_FnExactRecolour.Pure : Prop := ∀ (a0_0 : Int) (a0_1 : Int) (a0_2 : Int) (a0_3 : Int) (l0_4 : List Int) (l1 : List Int), (Lit.int .i64 a0_0).wf = true → (Lit.int .i64 a0_1).wf = true → (Lit.int .i64 a0_2).wf = true → (Lit.int .i64 a0_3).wf = true → l0_4.length ≤ maxLen → (∀ x ∈ l0_4, (Lit.int .i64 x).wf = true) → l1.length ≤ maxLen → (∀ x ∈ l1, (Lit.int .i64 x).wf = true) → ∃ k, laws_FnExactRecolour.f k a0_0 a0_1 a0_2 a0_3 l0_4 l1 = some true
end Go.Proofs.Yteeclbncpdafcaa.PA
