/- Walks written by program: each Go function that the law reaches comes to the plain function beside it. -/
import Derived.Test.YteeclbncpdafcaaPAx0
import Derived.Test.YteeclbncpdafcaaPAx2
import Derived.Test.YteeclbncpdafcaaPAx5
import Derived.Test.YteeclbncpdafcaaPAx8
import Derived.Test.YteeclbncpdafcaaPAx22
import Derived.Test.YteeclbncpdafcaaPAx26
import Derived.Test.YteeclbncpdafcaaPAx27
namespace Go.Proofs.Yteeclbncpdafcaa.PA
open Go.RowKit Go.Proofs.YteeclbncpdafcaaW.PrintWords Go.Proofs.YteeclbncpdafcaaW.PrintLast Go.Proofs.YteeclbncpdafcaaW.PrintMore
attribute [local go_sem] max2_int min2_int max_two min_two max_three min_three max_four min_four   -- for this text's walks alone
set_option linter.unusedVariables false
set_option linter.unusedSimpArgs false

/-! ### laws_FnExactFirstCome: function 8 -/
mutual
def laws_FnExactFirstCome.j0 : Nat → Int → Int → Bool → Int → Int → Int → Int → List Int → Int → Int → Int → Int → List Int → Int → Int → Int → Int → List Int → Int → Int → Int → Int → List Int → Option (Bool)
  | 0, _, _, _, _, _, _, _, _, _, _, _, _, _, _, _, _, _, _, _, _, _, _, _ => none
  | k + 1, x5, x8, x40, x635000, x635001, x635002, x635003, x635004, x652000, x652001, x652002, x652003, x652004, x660000, x660001, x660002, x660003, x660004, x669000, x669001, x669002, x669003, x669004 => if x40 = true then (some false) else ((laws_toPattern.f k x635000 x635001 x635002 x635003 x635004).bind fun bt670 => ((laws_eqPattern.f k x660000 x660001 x660002 x660003 x660004 bt670.1 bt670.2.1 bt670.2.2.1 bt670.2.2.2.1 bt670.2.2.2.2).bind fun t677 => (if t677 = true then ((laws_markPattern.f k x660000 x660001 x660002 x660003 x660004 1).bind fun bt678 => (if bt678.1 < 0 then (laws_FnExactFirstCome.j1 k x5 true x635000 x635001 x635002 x635003 x635004 x652000 x652001 x652002 x652003 x652004 x669000 x669001 x669002 x669003 x669004) else ((laws_eqPattern.f k x669000 x669001 x669002 x669003 x669004 x652000 x652001 x652002 x652003 x652004).bind fun t680 => (if t680 = true then (laws_FnExactFirstCome.j1 k x5 (x8 != x5) x635000 x635001 x635002 x635003 x635004 x652000 x652001 x652002 x652003 x652004 x669000 x669001 x669002 x669003 x669004) else (laws_FnExactFirstCome.j1 k x5 true x635000 x635001 x635002 x635003 x635004 x652000 x652001 x652002 x652003 x652004 x669000 x669001 x669002 x669003 x669004))))) else (some false))))
def laws_FnExactFirstCome.j1 : Nat → Int → Bool → Int → Int → Int → Int → List Int → Int → Int → Int → Int → List Int → Int → Int → Int → Int → List Int → Option (Bool)
  | 0, _, _, _, _, _, _, _, _, _, _, _, _, _, _, _, _, _ => none
  | k + 1, x5, x61, x635000, x635001, x635002, x635003, x635004, x652000, x652001, x652002, x652003, x652004, x669000, x669001, x669002, x669003, x669004 => if x61 = true then (some false) else ((laws_markPattern.f k x669000 x669001 x669002 x669003 x669004 1).bind fun bt681 => ((laws_heldPattern.f k x669000 x669001 x669002 x669003 bt681.2 1).bind fun t683 => (if t683 < 0 then (some false) else (if t683 = bt681.1 then ((laws_toPattern.f k x635000 x635001 x635002 x635003 x635004).bind fun bt684 => ((impl_FirstCome.f k bt684.1 bt684.2.1 bt684.2.2.1 bt684.2.2.2.1 bt684.2.2.2.2).bind fun bt691 => ((laws_eqPattern.f k bt691.1 bt691.2.1 bt691.2.2.1 bt691.2.2.2.1 bt691.2.2.2.2.1 x652000 x652001 x652002 x652003 x652004).bind fun t700 => (if t700 = true then (laws_FnExactFirstCome.j2 k bt681.1 (bt691.2.2.2.2.2 != x5) x669000 x669001 x669002 x669003 bt681.2) else (laws_FnExactFirstCome.j2 k bt681.1 true x669000 x669001 x669002 x669003 bt681.2))))) else (some false)))))
def laws_FnExactFirstCome.j2 : Nat → Int → Bool → Int → Int → Int → Int → List Int → Option (Bool)
  | 0, _, _, _, _, _, _, _ => none
  | k + 1, x10, x87, x669000, x669001, x669002, x669003, x669004 => if x87 = true then (some false) else ((laws_heldPattern.f k x669000 x669001 x669002 x669003 x669004 1).bind fun t701 => (if t701 < 0 then (some false) else (if t701 = x10 then (some true) else (some false))))
end
def laws_FnExactFirstCome.f (k : Nat) (a0_0 : Int) (a0_1 : Int) (a0_2 : Int) (a0_3 : Int) (l0_4 : List Int) : Option (Bool) := (laws_szPattern.f a0_0 a0_1 a0_2 a0_3 l0_4 1048576).bind fun t635 => (if t635 < 0 then (some true) else ((laws_toPattern.f k a0_0 a0_1 a0_2 a0_3 l0_4).bind fun bt636 => ((spec_FirstCome.f k bt636.1 bt636.2.1 bt636.2.2.1 bt636.2.2.2.1 bt636.2.2.2.2).bind fun bt643 => ((laws_toPattern.f k a0_0 a0_1 a0_2 a0_3 l0_4).bind fun bt652 => ((impl_FirstCome.f k bt652.1 bt652.2.1 bt652.2.2.1 bt652.2.2.2.1 bt652.2.2.2.2).bind fun bt660 => ((laws_eqPattern.f k bt660.1 bt660.2.1 bt660.2.2.1 bt660.2.2.2.1 bt660.2.2.2.2.1 bt643.1 bt643.2.1 bt643.2.2.1 bt643.2.2.2.1 bt643.2.2.2.2.1).bind fun t669 => (if t669 = true then (laws_FnExactFirstCome.j0 k bt643.2.2.2.2.2 bt660.2.2.2.2.2 (bt660.2.2.2.2.2 != bt643.2.2.2.2.2) a0_0 a0_1 a0_2 a0_3 l0_4 bt643.1 bt643.2.1 bt643.2.2.1 bt643.2.2.2.1 bt643.2.2.2.2.1 bt652.1 bt652.2.1 bt652.2.2.1 bt652.2.2.2.1 bt652.2.2.2.2 bt660.1 bt660.2.1 bt660.2.2.1 bt660.2.2.2.1 bt660.2.2.2.2.1) else (laws_FnExactFirstCome.j0 k bt643.2.2.2.2.2 bt660.2.2.2.2.2 true a0_0 a0_1 a0_2 a0_3 l0_4 bt643.1 bt643.2.1 bt643.2.2.1 bt643.2.2.2.1 bt643.2.2.2.2.1 bt652.1 bt652.2.1 bt652.2.2.1 bt652.2.2.2.1 bt652.2.2.2.2 bt660.1 bt660.2.1 bt660.2.2.1 bt660.2.2.2.1 bt660.2.2.2.2.1))))))))
theorem laws_FnExactFirstCome.mono_l : ∀ k, (∀ y0 y1 y2 y3 y4 y5 y6 y7 y8 y9 y10 y11 y12 y13 y14 y15 y16 y17 y18 y19 y20 y21 y22, LeO (laws_FnExactFirstCome.j0 k y0 y1 y2 y3 y4 y5 y6 y7 y8 y9 y10 y11 y12 y13 y14 y15 y16 y17 y18 y19 y20 y21 y22) (laws_FnExactFirstCome.j0 (k + 1) y0 y1 y2 y3 y4 y5 y6 y7 y8 y9 y10 y11 y12 y13 y14 y15 y16 y17 y18 y19 y20 y21 y22)) ∧ (∀ y0 y1 y2 y3 y4 y5 y6 y7 y8 y9 y10 y11 y12 y13 y14 y15 y16, LeO (laws_FnExactFirstCome.j1 k y0 y1 y2 y3 y4 y5 y6 y7 y8 y9 y10 y11 y12 y13 y14 y15 y16) (laws_FnExactFirstCome.j1 (k + 1) y0 y1 y2 y3 y4 y5 y6 y7 y8 y9 y10 y11 y12 y13 y14 y15 y16)) ∧ (∀ y0 y1 y2 y3 y4 y5 y6, LeO (laws_FnExactFirstCome.j2 k y0 y1 y2 y3 y4 y5 y6) (laws_FnExactFirstCome.j2 (k + 1) y0 y1 y2 y3 y4 y5 y6))
  | 0 => ⟨fun _ _ _ _ _ _ _ _ _ _ _ _ _ _ _ _ _ _ _ _ _ _ _ r h => by simp [laws_FnExactFirstCome.j0] at h, fun _ _ _ _ _ _ _ _ _ _ _ _ _ _ _ _ _ r h => by simp [laws_FnExactFirstCome.j1] at h, fun _ _ _ _ _ _ _ r h => by simp [laws_FnExactFirstCome.j2] at h⟩
  | k + 1 => by
    obtain ⟨ih0, ih1, ih2⟩ := laws_FnExactFirstCome.mono_l k
    refine ⟨?_, ?_, ?_⟩
    · intro y0 y1 y2 y3 y4 y5 y6 y7 y8 y9 y10 y11 y12 y13 y14 y15 y16 y17 y18 y19 y20 y21 y22
      unfold laws_FnExactFirstCome.j0
      repeat' first
      | (with_reducible exact ih0 _ _ _ _ _ _ _ _ _ _ _ _ _ _ _ _ _ _ _ _ _ _ _)
      | (with_reducible exact ih1 _ _ _ _ _ _ _ _ _ _ _ _ _ _ _ _ _)
      | (with_reducible exact ih2 _ _ _ _ _ _ _)
      | (with_reducible exact impl_FirstCome.mono _ _ _ _ _ _)
      | (with_reducible exact laws_eqPattern.mono _ _ _ _ _ _ _ _ _ _ _)
      | (with_reducible exact laws_heldPattern.mono _ _ _ _ _ _ _)
      | (with_reducible exact laws_markPattern.mono _ _ _ _ _ _ _)
      | (with_reducible exact laws_toPattern.mono _ _ _ _ _ _)
      | (with_reducible exact spec_FirstCome.mono _ _ _ _ _ _)
      | (with_reducible exact LeO.refl _)
      | (with_reducible exact LeO.none _)
      | (with_reducible refine LeO.ite ?_ ?_)
      | (with_reducible refine LeO.bind ?_ (fun _ => ?_))
      | exact ih0 _ _ _ _ _ _ _ _ _ _ _ _ _ _ _ _ _ _ _ _ _ _ _
      | exact ih1 _ _ _ _ _ _ _ _ _ _ _ _ _ _ _ _ _
      | exact ih2 _ _ _ _ _ _ _
      | exact impl_FirstCome.mono _ _ _ _ _ _
      | exact laws_eqPattern.mono _ _ _ _ _ _ _ _ _ _ _
      | exact laws_heldPattern.mono _ _ _ _ _ _ _
      | exact laws_markPattern.mono _ _ _ _ _ _ _
      | exact laws_toPattern.mono _ _ _ _ _ _
      | exact spec_FirstCome.mono _ _ _ _ _ _
      | exact LeO.none _
      | refine LeO.ite ?_ ?_
      | refine LeO.bind ?_ (fun _ => ?_)
    · intro y0 y1 y2 y3 y4 y5 y6 y7 y8 y9 y10 y11 y12 y13 y14 y15 y16
      unfold laws_FnExactFirstCome.j1
      repeat' first
      | (with_reducible exact ih0 _ _ _ _ _ _ _ _ _ _ _ _ _ _ _ _ _ _ _ _ _ _ _)
      | (with_reducible exact ih1 _ _ _ _ _ _ _ _ _ _ _ _ _ _ _ _ _)
      | (with_reducible exact ih2 _ _ _ _ _ _ _)
      | (with_reducible exact impl_FirstCome.mono _ _ _ _ _ _)
      | (with_reducible exact laws_eqPattern.mono _ _ _ _ _ _ _ _ _ _ _)
      | (with_reducible exact laws_heldPattern.mono _ _ _ _ _ _ _)
      | (with_reducible exact laws_markPattern.mono _ _ _ _ _ _ _)
      | (with_reducible exact laws_toPattern.mono _ _ _ _ _ _)
      | (with_reducible exact spec_FirstCome.mono _ _ _ _ _ _)
      | (with_reducible exact LeO.refl _)
      | (with_reducible exact LeO.none _)
      | (with_reducible refine LeO.ite ?_ ?_)
      | (with_reducible refine LeO.bind ?_ (fun _ => ?_))
      | exact ih0 _ _ _ _ _ _ _ _ _ _ _ _ _ _ _ _ _ _ _ _ _ _ _
      | exact ih1 _ _ _ _ _ _ _ _ _ _ _ _ _ _ _ _ _
      | exact ih2 _ _ _ _ _ _ _
      | exact impl_FirstCome.mono _ _ _ _ _ _
      | exact laws_eqPattern.mono _ _ _ _ _ _ _ _ _ _ _
      | exact laws_heldPattern.mono _ _ _ _ _ _ _
      | exact laws_markPattern.mono _ _ _ _ _ _ _
      | exact laws_toPattern.mono _ _ _ _ _ _
      | exact spec_FirstCome.mono _ _ _ _ _ _
      | exact LeO.none _
      | refine LeO.ite ?_ ?_
      | refine LeO.bind ?_ (fun _ => ?_)
    · intro y0 y1 y2 y3 y4 y5 y6
      unfold laws_FnExactFirstCome.j2
      repeat' first
      | (with_reducible exact ih0 _ _ _ _ _ _ _ _ _ _ _ _ _ _ _ _ _ _ _ _ _ _ _)
      | (with_reducible exact ih1 _ _ _ _ _ _ _ _ _ _ _ _ _ _ _ _ _)
      | (with_reducible exact ih2 _ _ _ _ _ _ _)
      | (with_reducible exact impl_FirstCome.mono _ _ _ _ _ _)
      | (with_reducible exact laws_eqPattern.mono _ _ _ _ _ _ _ _ _ _ _)
      | (with_reducible exact laws_heldPattern.mono _ _ _ _ _ _ _)
      | (with_reducible exact laws_markPattern.mono _ _ _ _ _ _ _)
      | (with_reducible exact laws_toPattern.mono _ _ _ _ _ _)
      | (with_reducible exact spec_FirstCome.mono _ _ _ _ _ _)
      | (with_reducible exact LeO.refl _)
      | (with_reducible exact LeO.none _)
      | (with_reducible refine LeO.ite ?_ ?_)
      | (with_reducible refine LeO.bind ?_ (fun _ => ?_))
      | exact ih0 _ _ _ _ _ _ _ _ _ _ _ _ _ _ _ _ _ _ _ _ _ _ _
      | exact ih1 _ _ _ _ _ _ _ _ _ _ _ _ _ _ _ _ _
      | exact ih2 _ _ _ _ _ _ _
      | exact impl_FirstCome.mono _ _ _ _ _ _
      | exact laws_eqPattern.mono _ _ _ _ _ _ _ _ _ _ _
      | exact laws_heldPattern.mono _ _ _ _ _ _ _
      | exact laws_markPattern.mono _ _ _ _ _ _ _
      | exact laws_toPattern.mono _ _ _ _ _ _
      | exact spec_FirstCome.mono _ _ _ _ _ _
      | exact LeO.none _
      | refine LeO.ite ?_ ?_
      | refine LeO.bind ?_ (fun _ => ?_)
theorem laws_FnExactFirstCome.mono : ∀ a0 a1 a2 a3 a4 k, LeO (laws_FnExactFirstCome.f k a0 a1 a2 a3 a4) (laws_FnExactFirstCome.f (k + 1) a0 a1 a2 a3 a4) := by
  intro a0 a1 a2 a3 a4 k
  obtain ⟨ih0, ih1, ih2⟩ := laws_FnExactFirstCome.mono_l k
  unfold laws_FnExactFirstCome.f
  repeat' first
      | (with_reducible exact ih0 _ _ _ _ _ _ _ _ _ _ _ _ _ _ _ _ _ _ _ _ _ _ _)
      | (with_reducible exact ih1 _ _ _ _ _ _ _ _ _ _ _ _ _ _ _ _ _)
      | (with_reducible exact ih2 _ _ _ _ _ _ _)
      | (with_reducible exact impl_FirstCome.mono _ _ _ _ _ _)
      | (with_reducible exact laws_eqPattern.mono _ _ _ _ _ _ _ _ _ _ _)
      | (with_reducible exact laws_heldPattern.mono _ _ _ _ _ _ _)
      | (with_reducible exact laws_markPattern.mono _ _ _ _ _ _ _)
      | (with_reducible exact laws_toPattern.mono _ _ _ _ _ _)
      | (with_reducible exact spec_FirstCome.mono _ _ _ _ _ _)
      | (with_reducible exact LeO.refl _)
      | (with_reducible exact LeO.none _)
      | (with_reducible refine LeO.ite ?_ ?_)
      | (with_reducible refine LeO.bind ?_ (fun _ => ?_))
      | exact ih0 _ _ _ _ _ _ _ _ _ _ _ _ _ _ _ _ _ _ _ _ _ _ _
      | exact ih1 _ _ _ _ _ _ _ _ _ _ _ _ _ _ _ _ _
      | exact ih2 _ _ _ _ _ _ _
      | exact impl_FirstCome.mono _ _ _ _ _ _
      | exact laws_eqPattern.mono _ _ _ _ _ _ _ _ _ _ _
      | exact laws_heldPattern.mono _ _ _ _ _ _ _
      | exact laws_markPattern.mono _ _ _ _ _ _ _
      | exact laws_toPattern.mono _ _ _ _ _ _
      | exact spec_FirstCome.mono _ _ _ _ _ _
      | exact LeO.none _
      | refine LeO.ite ?_ ?_
      | refine LeO.bind ?_ (fun _ => ?_)
set_option maxHeartbeats 8000000 in
set_option maxRecDepth 100000 in
theorem laws_FnExactFirstCome.calls (k : Nat) (a0_0 : Int) (a0_1 : Int) (a0_2 : Int) (a0_3 : Int) (A0_4 : Option Addr) (c0_4 : Nat) (l0_4 : List Int) (w : World) (hr0_4 : Kd.C (Kd.int .i64) w A0_4 l0_4.length l0_4) (hc0_4 : l0_4.length ≤ c0_4) (h : laws_FnExactFirstCome.f k a0_0 a0_1 a0_2 a0_3 l0_4 = some true) :
    Calls Try.prog 8 #[.agg #[.int .i64 a0_0, .int .i64 a0_1, .int .i64 a0_2, .int .i64 a0_3, .slice A0_4 l0_4.length c0_4]] w fun e w' => e = .returned (.bool true) ∧ Below w.heap.size w w' := by
  have hu26 := Try.underlying26
  have hu31 := Try.underlying31
  have HR0_4 := Aside0.mk hr0_4
  have HC0_4 := Aside0.mk hc0_4
  clear hr0_4 hc0_4
  have HB := Aside0.mk (Below.refl w.heap.size w)
  have H : ((laws_szPattern.f a0_0 a0_1 a0_2 a0_3 l0_4 1048576).bind fun t635 => (if t635 < 0 then (some true) else ((laws_toPattern.f k a0_0 a0_1 a0_2 a0_3 l0_4).bind fun bt636 => ((spec_FirstCome.f k bt636.1 bt636.2.1 bt636.2.2.1 bt636.2.2.2.1 bt636.2.2.2.2).bind fun bt643 => ((laws_toPattern.f k a0_0 a0_1 a0_2 a0_3 l0_4).bind fun bt652 => ((impl_FirstCome.f k bt652.1 bt652.2.1 bt652.2.2.1 bt652.2.2.2.1 bt652.2.2.2.2).bind fun bt660 => ((laws_eqPattern.f k bt660.1 bt660.2.1 bt660.2.2.1 bt660.2.2.2.1 bt660.2.2.2.2.1 bt643.1 bt643.2.1 bt643.2.2.1 bt643.2.2.2.1 bt643.2.2.2.2.1).bind fun t669 => (if t669 = true then (laws_FnExactFirstCome.j0 k bt643.2.2.2.2.2 bt660.2.2.2.2.2 (bt660.2.2.2.2.2 != bt643.2.2.2.2.2) a0_0 a0_1 a0_2 a0_3 l0_4 bt643.1 bt643.2.1 bt643.2.2.1 bt643.2.2.2.1 bt643.2.2.2.2.1 bt652.1 bt652.2.1 bt652.2.2.1 bt652.2.2.2.1 bt652.2.2.2.2 bt660.1 bt660.2.1 bt660.2.2.1 bt660.2.2.2.1 bt660.2.2.2.2.1) else (laws_FnExactFirstCome.j0 k bt643.2.2.2.2.2 bt660.2.2.2.2.2 true a0_0 a0_1 a0_2 a0_3 l0_4 bt643.1 bt643.2.1 bt643.2.2.1 bt643.2.2.2.1 bt643.2.2.2.2.1 bt652.1 bt652.2.1 bt652.2.2.1 bt652.2.2.2.1 bt652.2.2.2.2 bt660.1 bt660.2.1 bt660.2.2.1 bt660.2.2.2.1 bt660.2.2.2.2.1))))))))) = some true := h
  clear h
  replace H := Option.bind_eq_some_iff.mp H
  obtain ⟨t635, A20, H⟩ := H
  replace H : (if t635 < 0 then (some true) else ((laws_toPattern.f k a0_0 a0_1 a0_2 a0_3 l0_4).bind fun bt636 => ((spec_FirstCome.f k bt636.1 bt636.2.1 bt636.2.2.1 bt636.2.2.2.1 bt636.2.2.2.2).bind fun bt643 => ((laws_toPattern.f k a0_0 a0_1 a0_2 a0_3 l0_4).bind fun bt652 => ((impl_FirstCome.f k bt652.1 bt652.2.1 bt652.2.2.1 bt652.2.2.2.1 bt652.2.2.2.2).bind fun bt660 => ((laws_eqPattern.f k bt660.1 bt660.2.1 bt660.2.2.1 bt660.2.2.2.1 bt660.2.2.2.2.1 bt643.1 bt643.2.1 bt643.2.2.1 bt643.2.2.2.1 bt643.2.2.2.2.1).bind fun t669 => (if t669 = true then (laws_FnExactFirstCome.j0 k bt643.2.2.2.2.2 bt660.2.2.2.2.2 (bt660.2.2.2.2.2 != bt643.2.2.2.2.2) a0_0 a0_1 a0_2 a0_3 l0_4 bt643.1 bt643.2.1 bt643.2.2.1 bt643.2.2.2.1 bt643.2.2.2.2.1 bt652.1 bt652.2.1 bt652.2.2.1 bt652.2.2.2.1 bt652.2.2.2.2 bt660.1 bt660.2.1 bt660.2.2.1 bt660.2.2.2.1 bt660.2.2.2.2.1) else (laws_FnExactFirstCome.j0 k bt643.2.2.2.2.2 bt660.2.2.2.2.2 true a0_0 a0_1 a0_2 a0_3 l0_4 bt643.1 bt643.2.1 bt643.2.2.1 bt643.2.2.2.1 bt643.2.2.2.2.1 bt652.1 bt652.2.1 bt652.2.2.1 bt652.2.2.2.1 bt652.2.2.2.2 bt660.1 bt660.2.1 bt660.2.2.1 bt660.2.2.2.1 bt660.2.2.2.2.1)))))))) = some true := H
  have A2 := Aside0.mk A20
  clear A20
  by_cases c3 : t635 < 0
  · rw [if_pos c3] at H
    have c3b0 : decide (t635 < 0) = true := decide_eq_true c3
    clear c3
    clear H
    go_enter Try.func8, Try.ntmps8
    go_wp2_with (first | ((with_reducible refine gate_dst (N := 1) rfl ?_); refine box_event ?hg (N := 1) ?hd (cs := #[.int .i64 a0_0, .int .i64 a0_1, .int .i64 a0_2, .int .i64 a0_3, .slice A0_4 l0_4.length c0_4]) (t := 26) ?hr ?_; (case hd => rfl); (case hg => rfl); (case hr => first | (go_simp; done) | (go_simp; rfl)); intro gb634 hg w4 hbox hb; have n0_ := Aside0.mk (below_step (by repeat (first | (with_reducible first | exact HB.out | apply below_alloc | apply pw_below_drewN | apply below_drew1) | exact HB.out)) hb); have n1_ := Aside0.mk (hbox); have n2_ := Aside0.mk ((by rw [hg]; exact (below_size (by repeat (first | (with_reducible first | exact HB.out | apply below_alloc | apply pw_below_drewN | apply below_drew1) | exact HB.out))) : w.heap.size ≤ gb634)); have n3_ := Aside0.mk ((by rw [hg]; exact (below_size (by repeat (first | (with_reducible first | exact HB.out | apply below_alloc | apply pw_below_drewN | apply below_drew1) | exact HB.out))) : w.heap.size ≤ gb634)); clear HB; have HB := n0_; have BK634 := n1_; have GW634 := n2_; have GE634 := n3_; clear n0_ n1_ n2_ n3_; clear hb hbox hg; have hcz5_0 : w4.cell? ⟨gb634, 0, none⟩ = some (.int .i64 a0_0) := (blk_cell BK634.out 0).trans rfl; have hcz5_1 : w4.cell? ⟨gb634, 1, none⟩ = some (.int .i64 a0_1) := (blk_cell BK634.out 1).trans rfl; have hcz5_2 : w4.cell? ⟨gb634, 2, none⟩ = some (.int .i64 a0_2) := (blk_cell BK634.out 2).trans rfl; have hcz5_3 : w4.cell? ⟨gb634, 3, none⟩ = some (.int .i64 a0_3) := (blk_cell BK634.out 3).trans rfl; have hcz5_4 : w4.cell? ⟨gb634, 4, none⟩ = some (.slice A0_4 l0_4.length c0_4) := (blk_cell BK634.out 4).trans rfl; have hfz5_0 := blk_frozen BK634.out 0; have hfz5_1 := blk_frozen BK634.out 1; have hfz5_2 := blk_frozen BK634.out 2; have hfz5_3 := blk_frozen BK634.out 3; have hfz5_4 := blk_frozen BK634.out 4) | ((with_reducible refine gate_callee (f := 10) rfl ?_); refine goesL_ (some 16) rfl rfl Try.func10 (by kernel_rfl) rfl #[.agg #[.int .i64 a0_0, .int .i64 a0_1, .int .i64 a0_2, .int .i64 a0_3, .slice A0_4 l0_4.length c0_4], .int .i64 1048576] rfl (by (try simp only [List.map_toArray, List.map_cons, List.map_nil]); first | done | rfl | (simp only [List.length_drop, List.length_take]; rfl)) ?_; (with_reducible refine (laws_szPattern.calls a0_0 a0_1 a0_2 a0_3 _ _ l0_4 1048576 t635 _ ?side1 ?side2 A2.out).mono ?_); (case side1 => repeat (first | exact (Kd.C_below HR0_4.out HB.out) | (with_reducible refine Kd.C_alloc ?_ _) | (with_reducible refine Kd.C_drewN ?_ _) | (with_reducible refine Kd.C_drew ?_))); (case side2 => exact HC0_4.out); rintro e w6 ⟨rfl, hb⟩; refine ⟨_, rfl, ?_⟩; have n0_ := Aside0.mk (blk_below (g := gb634) (o := .cells #[.int .i64 a0_0, .int .i64 a0_1, .int .i64 a0_2, .int .i64 a0_3, .slice A0_4 l0_4.length c0_4] 26 (0, 0)) (by (with_reducible repeat (first | refine blk_drewN ?_ _ | refine blk_drew ?_ | refine blk_alloc ?_ _)); exact BK634.out) hb); have n1_ := Aside0.mk (below_step (by repeat (first | (with_reducible first | exact HB.out | apply below_alloc | apply pw_below_drewN | apply below_drew1 | refine below_set ?_ GE634.out) | exact HB.out)) hb); clear BK634; clear HB; have BK634 := n0_; have HB := n1_; clear n0_ n1_; (try clear hb); (try clear hb2); (try clear hk); (try clear hi)))
    go_ret
    exact ⟨by first | rfl | (simp [errW_none, errW_some] <;> rfl) | (simp [*, errW_none, errW_some] <;> rfl), by repeat (first | (with_reducible first | exact HB.out | apply below_alloc | apply pw_below_drewN | apply below_drew1 | refine below_set ?_ GE634.out) | exact HB.out)⟩
  · rw [if_neg c3] at H
    have c3b0 : decide (t635 < 0) = false := decide_eq_false c3
    clear c3
    replace H := Option.bind_eq_some_iff.mp H
    obtain ⟨⟨t636, t637, t638, t639, t640⟩, A70, H⟩ := H
    replace H : ((spec_FirstCome.f k t636 t637 t638 t639 t640).bind fun bt643 => ((laws_toPattern.f k a0_0 a0_1 a0_2 a0_3 l0_4).bind fun bt652 => ((impl_FirstCome.f k bt652.1 bt652.2.1 bt652.2.2.1 bt652.2.2.2.1 bt652.2.2.2.2).bind fun bt660 => ((laws_eqPattern.f k bt660.1 bt660.2.1 bt660.2.2.1 bt660.2.2.2.1 bt660.2.2.2.2.1 bt643.1 bt643.2.1 bt643.2.2.1 bt643.2.2.2.1 bt643.2.2.2.2.1).bind fun t669 => (if t669 = true then (laws_FnExactFirstCome.j0 k bt643.2.2.2.2.2 bt660.2.2.2.2.2 (bt660.2.2.2.2.2 != bt643.2.2.2.2.2) a0_0 a0_1 a0_2 a0_3 l0_4 bt643.1 bt643.2.1 bt643.2.2.1 bt643.2.2.2.1 bt643.2.2.2.2.1 bt652.1 bt652.2.1 bt652.2.2.1 bt652.2.2.2.1 bt652.2.2.2.2 bt660.1 bt660.2.1 bt660.2.2.1 bt660.2.2.2.1 bt660.2.2.2.2.1) else (laws_FnExactFirstCome.j0 k bt643.2.2.2.2.2 bt660.2.2.2.2.2 true a0_0 a0_1 a0_2 a0_3 l0_4 bt643.1 bt643.2.1 bt643.2.2.1 bt643.2.2.2.1 bt643.2.2.2.2.1 bt652.1 bt652.2.1 bt652.2.2.1 bt652.2.2.2.1 bt652.2.2.2.2 bt660.1 bt660.2.1 bt660.2.2.1 bt660.2.2.2.1 bt660.2.2.2.2.1)))))) = some true := H
    have A7 := Aside0.mk A70
    clear A70
    replace H := Option.bind_eq_some_iff.mp H
    obtain ⟨⟨t643, t644, t645, t646, t647, t650⟩, A80, H⟩ := H
    replace H : ((laws_toPattern.f k a0_0 a0_1 a0_2 a0_3 l0_4).bind fun bt652 => ((impl_FirstCome.f k bt652.1 bt652.2.1 bt652.2.2.1 bt652.2.2.2.1 bt652.2.2.2.2).bind fun bt660 => ((laws_eqPattern.f k bt660.1 bt660.2.1 bt660.2.2.1 bt660.2.2.2.1 bt660.2.2.2.2.1 t643 t644 t645 t646 t647).bind fun t669 => (if t669 = true then (laws_FnExactFirstCome.j0 k t650 bt660.2.2.2.2.2 (bt660.2.2.2.2.2 != t650) a0_0 a0_1 a0_2 a0_3 l0_4 t643 t644 t645 t646 t647 bt652.1 bt652.2.1 bt652.2.2.1 bt652.2.2.2.1 bt652.2.2.2.2 bt660.1 bt660.2.1 bt660.2.2.1 bt660.2.2.2.1 bt660.2.2.2.2.1) else (laws_FnExactFirstCome.j0 k t650 bt660.2.2.2.2.2 true a0_0 a0_1 a0_2 a0_3 l0_4 t643 t644 t645 t646 t647 bt652.1 bt652.2.1 bt652.2.2.1 bt652.2.2.2.1 bt652.2.2.2.2 bt660.1 bt660.2.1 bt660.2.2.1 bt660.2.2.2.1 bt660.2.2.2.2.1))))) = some true := H
    have A8 := Aside0.mk A80
    clear A80
    replace H := Option.bind_eq_some_iff.mp H
    obtain ⟨⟨t652, t653, t654, t655, t656⟩, A90, H⟩ := H
    replace H : ((impl_FirstCome.f k t652 t653 t654 t655 t656).bind fun bt660 => ((laws_eqPattern.f k bt660.1 bt660.2.1 bt660.2.2.1 bt660.2.2.2.1 bt660.2.2.2.2.1 t643 t644 t645 t646 t647).bind fun t669 => (if t669 = true then (laws_FnExactFirstCome.j0 k t650 bt660.2.2.2.2.2 (bt660.2.2.2.2.2 != t650) a0_0 a0_1 a0_2 a0_3 l0_4 t643 t644 t645 t646 t647 t652 t653 t654 t655 t656 bt660.1 bt660.2.1 bt660.2.2.1 bt660.2.2.2.1 bt660.2.2.2.2.1) else (laws_FnExactFirstCome.j0 k t650 bt660.2.2.2.2.2 true a0_0 a0_1 a0_2 a0_3 l0_4 t643 t644 t645 t646 t647 t652 t653 t654 t655 t656 bt660.1 bt660.2.1 bt660.2.2.1 bt660.2.2.2.1 bt660.2.2.2.2.1)))) = some true := H
    have A9 := Aside0.mk A90
    clear A90
    replace H := Option.bind_eq_some_iff.mp H
    obtain ⟨⟨t660, t661, t662, t663, t664, t667⟩, A100, H⟩ := H
    replace H : ((laws_eqPattern.f k t660 t661 t662 t663 t664 t643 t644 t645 t646 t647).bind fun t669 => (if t669 = true then (laws_FnExactFirstCome.j0 k t650 t667 (t667 != t650) a0_0 a0_1 a0_2 a0_3 l0_4 t643 t644 t645 t646 t647 t652 t653 t654 t655 t656 t660 t661 t662 t663 t664) else (laws_FnExactFirstCome.j0 k t650 t667 true a0_0 a0_1 a0_2 a0_3 l0_4 t643 t644 t645 t646 t647 t652 t653 t654 t655 t656 t660 t661 t662 t663 t664))) = some true := H
    have A10 := Aside0.mk A100
    clear A100
    have HC11 := Aside0.mk H
    clear H
    go_enter Try.func8, Try.ntmps8
    go_upto_region 8 with (first | ((with_reducible refine gate_dst (N := 1) rfl ?_); refine box_event ?hg (N := 1) ?hd (cs := #[.int .i64 a0_0, .int .i64 a0_1, .int .i64 a0_2, .int .i64 a0_3, .slice A0_4 l0_4.length c0_4]) (t := 26) ?hr ?_; (case hd => rfl); (case hg => rfl); (case hr => first | (go_simp; done) | (go_simp; rfl)); intro gb634 hg w12 hbox hb; have n0_ := Aside0.mk (below_step (by repeat (first | (with_reducible first | exact HB.out | apply below_alloc | apply pw_below_drewN | apply below_drew1) | exact HB.out)) hb); have n1_ := Aside0.mk (hbox); have n2_ := Aside0.mk ((by rw [hg]; exact (below_size (by repeat (first | (with_reducible first | exact HB.out | apply below_alloc | apply pw_below_drewN | apply below_drew1) | exact HB.out))) : w.heap.size ≤ gb634)); have n3_ := Aside0.mk ((by rw [hg]; exact (below_size (by repeat (first | (with_reducible first | exact HB.out | apply below_alloc | apply pw_below_drewN | apply below_drew1) | exact HB.out))) : w.heap.size ≤ gb634)); clear HB; have HB := n0_; have BK634 := n1_; have GW634 := n2_; have GE634 := n3_; clear n0_ n1_ n2_ n3_; clear hb hbox hg; have hcz13_0 : w12.cell? ⟨gb634, 0, none⟩ = some (.int .i64 a0_0) := (blk_cell BK634.out 0).trans rfl; have hcz13_1 : w12.cell? ⟨gb634, 1, none⟩ = some (.int .i64 a0_1) := (blk_cell BK634.out 1).trans rfl; have hcz13_2 : w12.cell? ⟨gb634, 2, none⟩ = some (.int .i64 a0_2) := (blk_cell BK634.out 2).trans rfl; have hcz13_3 : w12.cell? ⟨gb634, 3, none⟩ = some (.int .i64 a0_3) := (blk_cell BK634.out 3).trans rfl; have hcz13_4 : w12.cell? ⟨gb634, 4, none⟩ = some (.slice A0_4 l0_4.length c0_4) := (blk_cell BK634.out 4).trans rfl; have hfz13_0 := blk_frozen BK634.out 0; have hfz13_1 := blk_frozen BK634.out 1; have hfz13_2 := blk_frozen BK634.out 2; have hfz13_3 := blk_frozen BK634.out 3; have hfz13_4 := blk_frozen BK634.out 4) | ((with_reducible refine gate_callee (f := 10) rfl ?_); refine goesL_ (some 16) rfl rfl Try.func10 (by kernel_rfl) rfl #[.agg #[.int .i64 a0_0, .int .i64 a0_1, .int .i64 a0_2, .int .i64 a0_3, .slice A0_4 l0_4.length c0_4], .int .i64 1048576] rfl (by (try simp only [List.map_toArray, List.map_cons, List.map_nil]); first | done | rfl | (simp only [List.length_drop, List.length_take]; rfl)) ?_; (with_reducible refine (laws_szPattern.calls a0_0 a0_1 a0_2 a0_3 _ _ l0_4 1048576 t635 _ ?side1 ?side2 A2.out).mono ?_); (case side1 => repeat (first | exact (Kd.C_below HR0_4.out HB.out) | (with_reducible refine Kd.C_alloc ?_ _) | (with_reducible refine Kd.C_drewN ?_ _) | (with_reducible refine Kd.C_drew ?_))); (case side2 => exact HC0_4.out); rintro e w14 ⟨rfl, hb⟩; refine ⟨_, rfl, ?_⟩; have n0_ := Aside0.mk (blk_below (g := gb634) (o := .cells #[.int .i64 a0_0, .int .i64 a0_1, .int .i64 a0_2, .int .i64 a0_3, .slice A0_4 l0_4.length c0_4] 26 (0, 0)) (by (with_reducible repeat (first | refine blk_drewN ?_ _ | refine blk_drew ?_ | refine blk_alloc ?_ _)); exact BK634.out) hb); have n1_ := Aside0.mk (below_step (by repeat (first | (with_reducible first | exact HB.out | apply below_alloc | apply pw_below_drewN | apply below_drew1 | refine below_set ?_ GE634.out) | exact HB.out)) hb); clear BK634; clear HB; have BK634 := n0_; have HB := n1_; clear n0_ n1_; (try clear hb); (try clear hb2); (try clear hk); (try clear hi); have hcz15_0 : w14.cell? ⟨gb634, 0, none⟩ = some (.int .i64 a0_0) := (blk_cell BK634.out 0).trans rfl; have hcz15_1 : w14.cell? ⟨gb634, 1, none⟩ = some (.int .i64 a0_1) := (blk_cell BK634.out 1).trans rfl; have hcz15_2 : w14.cell? ⟨gb634, 2, none⟩ = some (.int .i64 a0_2) := (blk_cell BK634.out 2).trans rfl; have hcz15_3 : w14.cell? ⟨gb634, 3, none⟩ = some (.int .i64 a0_3) := (blk_cell BK634.out 3).trans rfl; have hcz15_4 : w14.cell? ⟨gb634, 4, none⟩ = some (.slice A0_4 l0_4.length c0_4) := (blk_cell BK634.out 4).trans rfl; have hfz15_0 := blk_frozen BK634.out 0; have hfz15_1 := blk_frozen BK634.out 1; have hfz15_2 := blk_frozen BK634.out 2; have hfz15_3 := blk_frozen BK634.out 3; have hfz15_4 := blk_frozen BK634.out 4) | ((with_reducible refine gate_callee (f := 12) rfl ?_); refine goesL_ (some 21) rfl rfl Try.func12 (by kernel_rfl) rfl #[.agg #[.int .i64 a0_0, .int .i64 a0_1, .int .i64 a0_2, .int .i64 a0_3, .slice A0_4 l0_4.length c0_4]] rfl (by (try simp only [List.map_toArray, List.map_cons, List.map_nil]); first | done | rfl | (simp only [List.length_drop, List.length_take]; rfl)) ?_; (with_reducible refine (laws_toPattern.calls k a0_0 a0_1 a0_2 a0_3 _ _ l0_4 t636 t637 t638 t639 t640 _ ?side1 ?side2 A7.out).mono ?_); (case side1 => repeat (first | exact (Kd.C_below HR0_4.out HB.out) | (with_reducible refine Kd.C_alloc ?_ _) | (with_reducible refine Kd.C_drewN ?_ _) | (with_reducible refine Kd.C_drew ?_))); (case side2 => exact HC0_4.out); rintro e w16 ⟨v641, rfl, ho0, hb⟩; refine ⟨_, rfl, ?_⟩; have n0_ := Aside0.mk (Kd.R_lower ho0 (below_size (by repeat (first | (with_reducible first | exact HB.out | apply below_alloc | apply pw_below_drewN | apply below_drew1 | refine below_set ?_ GE634.out) | exact HB.out)))); have n1_ := Aside0.mk (blk_below (g := gb634) (o := .cells #[.int .i64 a0_0, .int .i64 a0_1, .int .i64 a0_2, .int .i64 a0_3, .slice A0_4 l0_4.length c0_4] 26 (0, 0)) (by (with_reducible repeat (first | refine blk_drewN ?_ _ | refine blk_drew ?_ | refine blk_alloc ?_ _)); exact BK634.out) hb); have n2_ := Aside0.mk (below_step (by repeat (first | (with_reducible first | exact HB.out | apply below_alloc | apply pw_below_drewN | apply below_drew1 | refine below_set ?_ GE634.out) | exact HB.out)) hb); clear BK634; clear HB; have HO642 := n0_; have BK634 := n1_; have HB := n2_; clear n0_ n1_ n2_; (try clear hb); (try clear hb2); (try clear hk); (try clear hi); (try clear ho0); obtain ⟨Ao17, co17, eo17⟩ := Kd.R_slice HO642.out; subst eo17) | ((with_reducible refine gate_callee (f := 33) rfl ?_); refine goesL_ (some 22) rfl rfl Try.func33 (by kernel_rfl) rfl #[.agg #[.int .i64 t636, .int .i64 t637, .int .i64 t638, .int .i64 t639, .slice Ao17 t640.length co17]] rfl (by (try simp only [List.map_toArray, List.map_cons, List.map_nil]); first | done | rfl | (simp only [List.length_drop, List.length_take]; rfl)) ?_; (with_reducible refine (spec_FirstCome.calls k t636 t637 t638 t639 _ _ t640 t643 t644 t645 t646 t647 t650 _ ?side1 ?side2 A8.out).mono ?_); (case side1 => repeat (first | exact (Kd.R_reads' HO642.out).2.2 | (with_reducible refine Kd.C_alloc ?_ _) | (with_reducible refine Kd.C_drewN ?_ _) | (with_reducible refine Kd.C_drew ?_))); (case side2 => exact (Kd.R_reads' HO642.out).2.1); rintro e w18 ⟨v648, rfl, ho0, hb⟩; refine ⟨_, rfl, ?_⟩; have n0_ := Aside0.mk (Kd.R_elder' (by (with_reducible repeat (first | apply Kd.R_alloc | apply Kd.R_drewN | apply Kd.R_drew)); exact HO642.out) (Kd.R_base ho0) hb); have n1_ := Aside0.mk (Kd.R_lower (Kd.R_new' ho0 (Kd.R_lt (by (with_reducible repeat (first | apply Kd.R_alloc | apply Kd.R_drewN | apply Kd.R_drew)); exact HO642.out))) (below_size (by repeat (first | (with_reducible first | exact HB.out | apply below_alloc | apply pw_below_drewN | apply below_drew1 | refine below_set ?_ GE634.out) | exact HB.out)))); have n2_ := Aside0.mk (blk_below (g := gb634) (o := .cells #[.int .i64 a0_0, .int .i64 a0_1, .int .i64 a0_2, .int .i64 a0_3, .slice A0_4 l0_4.length c0_4] 26 (0, 0)) (by (with_reducible repeat (first | refine blk_drewN ?_ _ | refine blk_drew ?_ | refine blk_alloc ?_ _)); exact BK634.out) hb); have n3_ := Aside0.mk (below_step (by repeat (first | (with_reducible first | exact HB.out | apply below_alloc | apply pw_below_drewN | apply below_drew1 | refine below_set ?_ GE634.out) | exact HB.out)) hb); clear HO642; clear BK634; clear HB; have HO642 := n0_; have HO649 := n1_; have BK634 := n2_; have HB := n3_; clear n0_ n1_ n2_ n3_; (try clear hb); (try clear hb2); (try clear hk); (try clear hi); (try clear ho0)) | ((with_reducible refine gate_dst (N := 4) rfl ?_); refine box_event ?hg (N := 4) ?hd (cs := #[.int .i64 0, .int .i64 0, .int .i64 0, .int .i64 0, .slice none 0 0]) (t := 31) ?hr ?_; (case hd => rfl); (case hg => rfl); (case hr => first | (go_simp; done) | (go_simp; rfl)); intro gb651 hg w19 hbox hb; have n0_ := Aside0.mk (Kd.R_below (by (with_reducible repeat (first | apply Kd.R_alloc | apply Kd.R_drewN | apply Kd.R_drew)); exact HO642.out) hb); have n1_ := Aside0.mk (Kd.R_below (by (with_reducible repeat (first | apply Kd.R_alloc | apply Kd.R_drewN | apply Kd.R_drew)); exact HO649.out) hb); have n2_ := Aside0.mk (blk_below (g := gb634) (o := .cells #[.int .i64 a0_0, .int .i64 a0_1, .int .i64 a0_2, .int .i64 a0_3, .slice A0_4 l0_4.length c0_4] 26 (0, 0)) (by (with_reducible repeat (first | refine blk_drewN ?_ _ | refine blk_drew ?_ | refine blk_alloc ?_ _)); exact BK634.out) hb); have n3_ := Aside0.mk (below_step (by repeat (first | (with_reducible first | exact HB.out | apply below_alloc | apply pw_below_drewN | apply below_drew1 | refine below_set ?_ GE634.out) | exact HB.out)) hb); have n4_ := Aside0.mk (hbox); have n5_ := Aside0.mk ((by rw [hg]; exact (below_size (by repeat (first | (with_reducible first | exact HB.out | apply below_alloc | apply pw_below_drewN | apply below_drew1 | refine below_set ?_ GE634.out) | exact HB.out))) : w.heap.size ≤ gb651)); have n6_ := Aside0.mk ((by rw [hg]; exact (below_size (by repeat (first | (with_reducible first | exact HB.out | apply below_alloc | apply pw_below_drewN | apply below_drew1 | refine below_set ?_ GE634.out) | exact HB.out))) : w.heap.size ≤ gb651)); have n7_ := Aside0.mk ((by rw [hg]; exact Nat.ne_of_lt (blk_lt (g := gb634) (o := .cells #[.int .i64 a0_0, .int .i64 a0_1, .int .i64 a0_2, .int .i64 a0_3, .slice A0_4 l0_4.length c0_4] 26 (0, 0)) (by (with_reducible repeat (first | refine blk_drewN ?_ _ | refine blk_drew ?_ | refine blk_alloc ?_ _)); exact BK634.out)) : gb634 ≠ gb651)); have n8_ := Aside0.mk ((by rw [hg]; exact Nat.ne_of_gt (blk_lt (g := gb634) (o := .cells #[.int .i64 a0_0, .int .i64 a0_1, .int .i64 a0_2, .int .i64 a0_3, .slice A0_4 l0_4.length c0_4] 26 (0, 0)) (by (with_reducible repeat (first | refine blk_drewN ?_ _ | refine blk_drew ?_ | refine blk_alloc ?_ _)); exact BK634.out)) : gb651 ≠ gb634)); clear HO642; clear HO649; clear BK634; clear HB; have HO642 := n0_; have HO649 := n1_; have BK634 := n2_; have HB := n3_; have BK651 := n4_; have GW651 := n5_; have GE651 := n6_; have NB634_651 := n7_; have NB651_634 := n8_; clear n0_ n1_ n2_ n3_ n4_ n5_ n6_ n7_ n8_; clear hb hbox hg; have hnb20 := NB651_634.out; have hnc20 := NB634_651.out; have hcz21_0 : w19.cell? ⟨gb651, 0, none⟩ = some (.int .i64 0) := (blk_cell BK651.out 0).trans rfl; have hcz21_1 : w19.cell? ⟨gb651, 1, none⟩ = some (.int .i64 0) := (blk_cell BK651.out 1).trans rfl; have hcz21_2 : w19.cell? ⟨gb651, 2, none⟩ = some (.int .i64 0) := (blk_cell BK651.out 2).trans rfl; have hcz21_3 : w19.cell? ⟨gb651, 3, none⟩ = some (.int .i64 0) := (blk_cell BK651.out 3).trans rfl; have hcz21_4 : w19.cell? ⟨gb651, 4, none⟩ = some (.slice none 0 0) := (blk_cell BK651.out 4).trans rfl; have hfz21_0 := blk_frozen BK651.out 0; have hfz21_1 := blk_frozen BK651.out 1; have hfz21_2 := blk_frozen BK651.out 2; have hfz21_3 := blk_frozen BK651.out 3; have hfz21_4 := blk_frozen BK651.out 4; obtain ⟨Ao22, co22, eo22⟩ := Kd.R_slice HO649.out; subst eo22; have hcz23_0 : w19.cell? ⟨gb634, 0, none⟩ = some (.int .i64 a0_0) := (blk_cell BK634.out 0).trans rfl; have hcz23_1 : w19.cell? ⟨gb634, 1, none⟩ = some (.int .i64 a0_1) := (blk_cell BK634.out 1).trans rfl; have hcz23_2 : w19.cell? ⟨gb634, 2, none⟩ = some (.int .i64 a0_2) := (blk_cell BK634.out 2).trans rfl; have hcz23_3 : w19.cell? ⟨gb634, 3, none⟩ = some (.int .i64 a0_3) := (blk_cell BK634.out 3).trans rfl; have hcz23_4 : w19.cell? ⟨gb634, 4, none⟩ = some (.slice A0_4 l0_4.length c0_4) := (blk_cell BK634.out 4).trans rfl; have hfz23_0 := blk_frozen BK634.out 0; have hfz23_1 := blk_frozen BK634.out 1; have hfz23_2 := blk_frozen BK634.out 2; have hfz23_3 := blk_frozen BK634.out 3; have hfz23_4 := blk_frozen BK634.out 4) | ((with_reducible refine gate_callee (f := 12) rfl ?_); refine goesL_ (some 26) rfl rfl Try.func12 (by kernel_rfl) rfl #[.agg #[.int .i64 a0_0, .int .i64 a0_1, .int .i64 a0_2, .int .i64 a0_3, .slice A0_4 l0_4.length c0_4]] rfl (by (try simp only [List.map_toArray, List.map_cons, List.map_nil]); first | done | rfl | (simp only [List.length_drop, List.length_take]; rfl)) ?_; (with_reducible refine (laws_toPattern.calls k a0_0 a0_1 a0_2 a0_3 _ _ l0_4 t652 t653 t654 t655 t656 _ ?side1 ?side2 A9.out).mono ?_); (case side1 => exact Kd.C_below HR0_4.out (by repeat (first | (with_reducible first | exact HB.out | apply below_alloc | apply pw_below_drewN | apply below_drew1 | refine below_set ?_ GE634.out | refine below_set ?_ GE651.out) | exact HB.out))); (case side2 => exact HC0_4.out); rintro e w24 ⟨v657, rfl, ho0, hb⟩; refine ⟨_, rfl, ?_⟩; have n0_ := Aside0.mk (Kd.R_elder' (by (with_reducible repeat (first | apply Kd.R_alloc | apply Kd.R_drewN | apply Kd.R_drew)); exact (Kd.R_mono (Kd.R_far (p := ⟨gb651, 4, none⟩) (Kd.R_far (p := ⟨gb651, 3, none⟩) (Kd.R_far (p := ⟨gb651, 2, none⟩) (Kd.R_far (p := ⟨gb651, 1, none⟩) (Kd.R_far (p := ⟨gb651, 0, none⟩) (Kd.R_types HO642.out BK651.out (by decide)) (fun _ hk => hk.2) (.int .i64 t643)) (fun _ hk => hk.2) (.int .i64 t644)) (fun _ hk => hk.2) (.int .i64 t645)) (fun _ hk => hk.2) (.int .i64 t646)) (fun _ hk => hk.2) (.slice Ao22 t647.length co22)) (fun _ h_ => h_.1))) (Kd.R_base ho0) hb); have n1_ := Aside0.mk (Kd.R_elder' (by (with_reducible repeat (first | apply Kd.R_alloc | apply Kd.R_drewN | apply Kd.R_drew)); exact (Kd.R_mono (Kd.R_far (p := ⟨gb651, 4, none⟩) (Kd.R_far (p := ⟨gb651, 3, none⟩) (Kd.R_far (p := ⟨gb651, 2, none⟩) (Kd.R_far (p := ⟨gb651, 1, none⟩) (Kd.R_far (p := ⟨gb651, 0, none⟩) (Kd.R_types HO649.out BK651.out (by decide)) (fun _ hk => hk.2) (.int .i64 t643)) (fun _ hk => hk.2) (.int .i64 t644)) (fun _ hk => hk.2) (.int .i64 t645)) (fun _ hk => hk.2) (.int .i64 t646)) (fun _ hk => hk.2) (.slice Ao22 t647.length co22)) (fun _ h_ => h_.1))) (Kd.R_base ho0) hb); have n2_ := Aside0.mk (Kd.R_lower (Kd.R_new' (Kd.R_new' ho0 (Kd.R_lt (by (with_reducible repeat (first | apply Kd.R_alloc | apply Kd.R_drewN | apply Kd.R_drew)); exact (Kd.R_mono (Kd.R_far (p := ⟨gb651, 4, none⟩) (Kd.R_far (p := ⟨gb651, 3, none⟩) (Kd.R_far (p := ⟨gb651, 2, none⟩) (Kd.R_far (p := ⟨gb651, 1, none⟩) (Kd.R_far (p := ⟨gb651, 0, none⟩) (Kd.R_types HO642.out BK651.out (by decide)) (fun _ hk => hk.2) (.int .i64 t643)) (fun _ hk => hk.2) (.int .i64 t644)) (fun _ hk => hk.2) (.int .i64 t645)) (fun _ hk => hk.2) (.int .i64 t646)) (fun _ hk => hk.2) (.slice Ao22 t647.length co22)) (fun _ h_ => h_.1))))) (Kd.R_lt (by (with_reducible repeat (first | apply Kd.R_alloc | apply Kd.R_drewN | apply Kd.R_drew)); exact (Kd.R_mono (Kd.R_far (p := ⟨gb651, 4, none⟩) (Kd.R_far (p := ⟨gb651, 3, none⟩) (Kd.R_far (p := ⟨gb651, 2, none⟩) (Kd.R_far (p := ⟨gb651, 1, none⟩) (Kd.R_far (p := ⟨gb651, 0, none⟩) (Kd.R_types HO649.out BK651.out (by decide)) (fun _ hk => hk.2) (.int .i64 t643)) (fun _ hk => hk.2) (.int .i64 t644)) (fun _ hk => hk.2) (.int .i64 t645)) (fun _ hk => hk.2) (.int .i64 t646)) (fun _ hk => hk.2) (.slice Ao22 t647.length co22)) (fun _ h_ => h_.1))))) (below_size (by repeat (first | (with_reducible first | exact HB.out | apply below_alloc | apply pw_below_drewN | apply below_drew1 | refine below_set ?_ GE634.out | refine below_set ?_ GE651.out) | exact HB.out)))); have n3_ := Aside0.mk (blk_below (g := gb634) (o := .cells #[.int .i64 a0_0, .int .i64 a0_1, .int .i64 a0_2, .int .i64 a0_3, .slice A0_4 l0_4.length c0_4] 26 (0, 0)) (by (with_reducible repeat (first | refine blk_drewN ?_ _ | refine blk_drew ?_ | refine blk_alloc ?_ _)); refine blk_far ?_ NB634_651.out _; (with_reducible repeat (first | refine blk_drewN ?_ _ | refine blk_drew ?_ | refine blk_alloc ?_ _)); refine blk_far ?_ NB634_651.out _; (with_reducible repeat (first | refine blk_drewN ?_ _ | refine blk_drew ?_ | refine blk_alloc ?_ _)); refine blk_far ?_ NB634_651.out _; (with_reducible repeat (first | refine blk_drewN ?_ _ | refine blk_drew ?_ | refine blk_alloc ?_ _)); refine blk_far ?_ NB634_651.out _; (with_reducible repeat (first | refine blk_drewN ?_ _ | refine blk_drew ?_ | refine blk_alloc ?_ _)); refine blk_far ?_ NB634_651.out _; (with_reducible repeat (first | refine blk_drewN ?_ _ | refine blk_drew ?_ | refine blk_alloc ?_ _)); exact BK634.out) hb); have n4_ := Aside0.mk (blk_below (g := gb651) (o := .cells #[.int .i64 t643, .int .i64 t644, .int .i64 t645, .int .i64 t646, .slice Ao22 t647.length co22] 31 (0, 0)) (by (with_reducible repeat (first | refine blk_drewN ?_ _ | refine blk_drew ?_ | refine blk_alloc ?_ _)); refine blk_put (cs := #[.int .i64 t643, .int .i64 t644, .int .i64 t645, .int .i64 t646, .slice none 0 0]) ?_ 4 _ rfl; (with_reducible repeat (first | refine blk_drewN ?_ _ | refine blk_drew ?_ | refine blk_alloc ?_ _)); refine blk_put (cs := #[.int .i64 t643, .int .i64 t644, .int .i64 t645, .int .i64 0, .slice none 0 0]) ?_ 3 _ rfl; (with_reducible repeat (first | refine blk_drewN ?_ _ | refine blk_drew ?_ | refine blk_alloc ?_ _)); refine blk_put (cs := #[.int .i64 t643, .int .i64 t644, .int .i64 0, .int .i64 0, .slice none 0 0]) ?_ 2 _ rfl; (with_reducible repeat (first | refine blk_drewN ?_ _ | refine blk_drew ?_ | refine blk_alloc ?_ _)); refine blk_put (cs := #[.int .i64 t643, .int .i64 0, .int .i64 0, .int .i64 0, .slice none 0 0]) ?_ 1 _ rfl; (with_reducible repeat (first | refine blk_drewN ?_ _ | refine blk_drew ?_ | refine blk_alloc ?_ _)); refine blk_put (cs := #[.int .i64 0, .int .i64 0, .int .i64 0, .int .i64 0, .slice none 0 0]) ?_ 0 _ rfl; (with_reducible repeat (first | refine blk_drewN ?_ _ | refine blk_drew ?_ | refine blk_alloc ?_ _)); exact BK651.out) hb); have n5_ := Aside0.mk (below_step (by repeat (first | (with_reducible first | exact HB.out | apply below_alloc | apply pw_below_drewN | apply below_drew1 | refine below_set ?_ GE634.out | refine below_set ?_ GE651.out) | exact HB.out)) hb); clear HO642; clear HO649; clear BK634; clear BK651; clear HB; have HO642 := n0_; have HO649 := n1_; have HO658 := n2_; have BK634 := n3_; have BK651 := n4_; have HB := n5_; clear n0_ n1_ n2_ n3_ n4_ n5_; (try clear hb); (try clear hb2); (try clear hk); (try clear hi); (try clear ho0)) | ((with_reducible refine gate_dst (N := 6) rfl ?_); refine box_event ?hg (N := 6) ?hd (cs := #[.int .i64 0, .int .i64 0, .int .i64 0, .int .i64 0, .slice none 0 0]) (t := 31) ?hr ?_; (case hd => rfl); (case hg => rfl); (case hr => first | (go_simp; done) | (go_simp; rfl)); intro gb659 hg w25 hbox hb; have n0_ := Aside0.mk (Kd.R_below (by (with_reducible repeat (first | apply Kd.R_alloc | apply Kd.R_drewN | apply Kd.R_drew)); exact HO642.out) hb); have n1_ := Aside0.mk (Kd.R_below (by (with_reducible repeat (first | apply Kd.R_alloc | apply Kd.R_drewN | apply Kd.R_drew)); exact HO649.out) hb); have n2_ := Aside0.mk (Kd.R_below (by (with_reducible repeat (first | apply Kd.R_alloc | apply Kd.R_drewN | apply Kd.R_drew)); exact HO658.out) hb); have n3_ := Aside0.mk (blk_below (g := gb634) (o := .cells #[.int .i64 a0_0, .int .i64 a0_1, .int .i64 a0_2, .int .i64 a0_3, .slice A0_4 l0_4.length c0_4] 26 (0, 0)) (by (with_reducible repeat (first | refine blk_drewN ?_ _ | refine blk_drew ?_ | refine blk_alloc ?_ _)); exact BK634.out) hb); have n4_ := Aside0.mk (blk_below (g := gb651) (o := .cells #[.int .i64 t643, .int .i64 t644, .int .i64 t645, .int .i64 t646, .slice Ao22 t647.length co22] 31 (0, 0)) (by (with_reducible repeat (first | refine blk_drewN ?_ _ | refine blk_drew ?_ | refine blk_alloc ?_ _)); exact BK651.out) hb); have n5_ := Aside0.mk (below_step (by repeat (first | (with_reducible first | exact HB.out | apply below_alloc | apply pw_below_drewN | apply below_drew1 | refine below_set ?_ GE634.out | refine below_set ?_ GE651.out) | exact HB.out)) hb); have n6_ := Aside0.mk (hbox); have n7_ := Aside0.mk ((by rw [hg]; exact (below_size (by repeat (first | (with_reducible first | exact HB.out | apply below_alloc | apply pw_below_drewN | apply below_drew1 | refine below_set ?_ GE634.out | refine below_set ?_ GE651.out) | exact HB.out))) : w.heap.size ≤ gb659)); have n8_ := Aside0.mk ((by rw [hg]; exact (below_size (by repeat (first | (with_reducible first | exact HB.out | apply below_alloc | apply pw_below_drewN | apply below_drew1 | refine below_set ?_ GE634.out | refine below_set ?_ GE651.out) | exact HB.out))) : w.heap.size ≤ gb659)); have n9_ := Aside0.mk ((by rw [hg]; exact Nat.ne_of_lt (blk_lt (g := gb634) (o := .cells #[.int .i64 a0_0, .int .i64 a0_1, .int .i64 a0_2, .int .i64 a0_3, .slice A0_4 l0_4.length c0_4] 26 (0, 0)) (by (with_reducible repeat (first | refine blk_drewN ?_ _ | refine blk_drew ?_ | refine blk_alloc ?_ _)); exact BK634.out)) : gb634 ≠ gb659)); have n10_ := Aside0.mk ((by rw [hg]; exact Nat.ne_of_gt (blk_lt (g := gb634) (o := .cells #[.int .i64 a0_0, .int .i64 a0_1, .int .i64 a0_2, .int .i64 a0_3, .slice A0_4 l0_4.length c0_4] 26 (0, 0)) (by (with_reducible repeat (first | refine blk_drewN ?_ _ | refine blk_drew ?_ | refine blk_alloc ?_ _)); exact BK634.out)) : gb659 ≠ gb634)); have n11_ := Aside0.mk ((by rw [hg]; exact Nat.ne_of_lt (blk_lt (g := gb651) (o := .cells #[.int .i64 t643, .int .i64 t644, .int .i64 t645, .int .i64 t646, .slice Ao22 t647.length co22] 31 (0, 0)) (by (with_reducible repeat (first | refine blk_drewN ?_ _ | refine blk_drew ?_ | refine blk_alloc ?_ _)); exact BK651.out)) : gb651 ≠ gb659)); have n12_ := Aside0.mk ((by rw [hg]; exact Nat.ne_of_gt (blk_lt (g := gb651) (o := .cells #[.int .i64 t643, .int .i64 t644, .int .i64 t645, .int .i64 t646, .slice Ao22 t647.length co22] 31 (0, 0)) (by (with_reducible repeat (first | refine blk_drewN ?_ _ | refine blk_drew ?_ | refine blk_alloc ?_ _)); exact BK651.out)) : gb659 ≠ gb651)); clear HO642; clear HO649; clear HO658; clear BK634; clear BK651; clear HB; have HO642 := n0_; have HO649 := n1_; have HO658 := n2_; have BK634 := n3_; have BK651 := n4_; have HB := n5_; have BK659 := n6_; have GW659 := n7_; have GE659 := n8_; have NB634_659 := n9_; have NB659_634 := n10_; have NB651_659 := n11_; have NB659_651 := n12_; clear n0_ n1_ n2_ n3_ n4_ n5_ n6_ n7_ n8_ n9_ n10_ n11_ n12_; clear hb hbox hg; have hnb26 := NB659_634.out; have hnc26 := NB634_659.out; have hnb27 := NB659_651.out; have hnc27 := NB651_659.out; have hcz28_0 : w25.cell? ⟨gb659, 0, none⟩ = some (.int .i64 0) := (blk_cell BK659.out 0).trans rfl; have hcz28_1 : w25.cell? ⟨gb659, 1, none⟩ = some (.int .i64 0) := (blk_cell BK659.out 1).trans rfl; have hcz28_2 : w25.cell? ⟨gb659, 2, none⟩ = some (.int .i64 0) := (blk_cell BK659.out 2).trans rfl; have hcz28_3 : w25.cell? ⟨gb659, 3, none⟩ = some (.int .i64 0) := (blk_cell BK659.out 3).trans rfl; have hcz28_4 : w25.cell? ⟨gb659, 4, none⟩ = some (.slice none 0 0) := (blk_cell BK659.out 4).trans rfl; have hfz28_0 := blk_frozen BK659.out 0; have hfz28_1 := blk_frozen BK659.out 1; have hfz28_2 := blk_frozen BK659.out 2; have hfz28_3 := blk_frozen BK659.out 3; have hfz28_4 := blk_frozen BK659.out 4; obtain ⟨Ao29, co29, eo29⟩ := Kd.R_slice HO658.out; subst eo29) | ((with_reducible refine gate_callee (f := 34) rfl ?_); refine goesL_ (some 29) rfl rfl Try.func34 (by kernel_rfl) rfl #[.agg #[.int .i64 t652, .int .i64 t653, .int .i64 t654, .int .i64 t655, .slice Ao29 t656.length co29]] rfl (by (try simp only [List.map_toArray, List.map_cons, List.map_nil]); first | done | rfl | (simp only [List.length_drop, List.length_take]; rfl)) ?_; (with_reducible refine (impl_FirstCome.calls k t652 t653 t654 t655 _ _ t656 t660 t661 t662 t663 t664 t667 _ ?side1 ?side2 A10.out).mono ?_); (case side1 => refine (Kd.R_reads' (e := 2) (base := w.heap.size) (ok := fun k_ => ((True ∧ some k_ ≠ (.slice Ao17 t640.length co17 : Value).ownBlock) ∧ some k_ ≠ (.slice Ao22 t647.length co22 : Value).ownBlock)) (n := t656.length) (c := co29) ?_).2.2; exact (by (with_reducible repeat (first | apply Kd.R_alloc | apply Kd.R_drewN | apply Kd.R_drew)); exact (Kd.R_mono (Kd.R_far (p := ⟨gb659, 4, none⟩) (Kd.R_far (p := ⟨gb659, 3, none⟩) (Kd.R_far (p := ⟨gb659, 2, none⟩) (Kd.R_far (p := ⟨gb659, 1, none⟩) (Kd.R_far (p := ⟨gb659, 0, none⟩) (Kd.R_types HO658.out BK659.out (by decide)) (fun _ hk => hk.2) (.int .i64 t652)) (fun _ hk => hk.2) (.int .i64 t653)) (fun _ hk => hk.2) (.int .i64 t654)) (fun _ hk => hk.2) (.int .i64 t655)) (fun _ hk => hk.2) (.slice Ao29 t656.length co29)) (fun _ h_ => h_.1)))); (case side2 => exact (Kd.R_reads' HO658.out).2.1); rintro e w30 ⟨v665, rfl, ho0, hb⟩; refine ⟨_, rfl, ?_⟩; have n0_ := Aside0.mk (Kd.R_elder' (by (with_reducible repeat (first | apply Kd.R_alloc | apply Kd.R_drewN | apply Kd.R_drew)); exact (Kd.R_mono (Kd.R_far (p := ⟨gb659, 4, none⟩) (Kd.R_far (p := ⟨gb659, 3, none⟩) (Kd.R_far (p := ⟨gb659, 2, none⟩) (Kd.R_far (p := ⟨gb659, 1, none⟩) (Kd.R_far (p := ⟨gb659, 0, none⟩) (Kd.R_types HO642.out BK659.out (by decide)) (fun _ hk => hk.2) (.int .i64 t652)) (fun _ hk => hk.2) (.int .i64 t653)) (fun _ hk => hk.2) (.int .i64 t654)) (fun _ hk => hk.2) (.int .i64 t655)) (fun _ hk => hk.2) (.slice Ao29 t656.length co29)) (fun _ h_ => h_.1))) (Kd.R_base ho0) hb); have n1_ := Aside0.mk (Kd.R_elder' (by (with_reducible repeat (first | apply Kd.R_alloc | apply Kd.R_drewN | apply Kd.R_drew)); exact (Kd.R_mono (Kd.R_far (p := ⟨gb659, 4, none⟩) (Kd.R_far (p := ⟨gb659, 3, none⟩) (Kd.R_far (p := ⟨gb659, 2, none⟩) (Kd.R_far (p := ⟨gb659, 1, none⟩) (Kd.R_far (p := ⟨gb659, 0, none⟩) (Kd.R_types HO649.out BK659.out (by decide)) (fun _ hk => hk.2) (.int .i64 t652)) (fun _ hk => hk.2) (.int .i64 t653)) (fun _ hk => hk.2) (.int .i64 t654)) (fun _ hk => hk.2) (.int .i64 t655)) (fun _ hk => hk.2) (.slice Ao29 t656.length co29)) (fun _ h_ => h_.1))) (Kd.R_base ho0) hb); have n2_ := Aside0.mk (Kd.R_elder' (by (with_reducible repeat (first | apply Kd.R_alloc | apply Kd.R_drewN | apply Kd.R_drew)); exact (Kd.R_mono (Kd.R_far (p := ⟨gb659, 4, none⟩) (Kd.R_far (p := ⟨gb659, 3, none⟩) (Kd.R_far (p := ⟨gb659, 2, none⟩) (Kd.R_far (p := ⟨gb659, 1, none⟩) (Kd.R_far (p := ⟨gb659, 0, none⟩) (Kd.R_types HO658.out BK659.out (by decide)) (fun _ hk => hk.2) (.int .i64 t652)) (fun _ hk => hk.2) (.int .i64 t653)) (fun _ hk => hk.2) (.int .i64 t654)) (fun _ hk => hk.2) (.int .i64 t655)) (fun _ hk => hk.2) (.slice Ao29 t656.length co29)) (fun _ h_ => h_.1))) (Kd.R_base ho0) hb); have n3_ := Aside0.mk (Kd.R_lower (Kd.R_new' (Kd.R_new' (Kd.R_new' ho0 (Kd.R_lt (by (with_reducible repeat (first | apply Kd.R_alloc | apply Kd.R_drewN | apply Kd.R_drew)); exact (Kd.R_mono (Kd.R_far (p := ⟨gb659, 4, none⟩) (Kd.R_far (p := ⟨gb659, 3, none⟩) (Kd.R_far (p := ⟨gb659, 2, none⟩) (Kd.R_far (p := ⟨gb659, 1, none⟩) (Kd.R_far (p := ⟨gb659, 0, none⟩) (Kd.R_types HO642.out BK659.out (by decide)) (fun _ hk => hk.2) (.int .i64 t652)) (fun _ hk => hk.2) (.int .i64 t653)) (fun _ hk => hk.2) (.int .i64 t654)) (fun _ hk => hk.2) (.int .i64 t655)) (fun _ hk => hk.2) (.slice Ao29 t656.length co29)) (fun _ h_ => h_.1))))) (Kd.R_lt (by (with_reducible repeat (first | apply Kd.R_alloc | apply Kd.R_drewN | apply Kd.R_drew)); exact (Kd.R_mono (Kd.R_far (p := ⟨gb659, 4, none⟩) (Kd.R_far (p := ⟨gb659, 3, none⟩) (Kd.R_far (p := ⟨gb659, 2, none⟩) (Kd.R_far (p := ⟨gb659, 1, none⟩) (Kd.R_far (p := ⟨gb659, 0, none⟩) (Kd.R_types HO649.out BK659.out (by decide)) (fun _ hk => hk.2) (.int .i64 t652)) (fun _ hk => hk.2) (.int .i64 t653)) (fun _ hk => hk.2) (.int .i64 t654)) (fun _ hk => hk.2) (.int .i64 t655)) (fun _ hk => hk.2) (.slice Ao29 t656.length co29)) (fun _ h_ => h_.1))))) (Kd.R_lt (by (with_reducible repeat (first | apply Kd.R_alloc | apply Kd.R_drewN | apply Kd.R_drew)); exact (Kd.R_mono (Kd.R_far (p := ⟨gb659, 4, none⟩) (Kd.R_far (p := ⟨gb659, 3, none⟩) (Kd.R_far (p := ⟨gb659, 2, none⟩) (Kd.R_far (p := ⟨gb659, 1, none⟩) (Kd.R_far (p := ⟨gb659, 0, none⟩) (Kd.R_types HO658.out BK659.out (by decide)) (fun _ hk => hk.2) (.int .i64 t652)) (fun _ hk => hk.2) (.int .i64 t653)) (fun _ hk => hk.2) (.int .i64 t654)) (fun _ hk => hk.2) (.int .i64 t655)) (fun _ hk => hk.2) (.slice Ao29 t656.length co29)) (fun _ h_ => h_.1))))) (below_size (by repeat (first | (with_reducible first | exact HB.out | apply below_alloc | apply pw_below_drewN | apply below_drew1 | refine below_set ?_ GE634.out | refine below_set ?_ GE651.out | refine below_set ?_ GE659.out) | exact HB.out)))); have n4_ := Aside0.mk (blk_below (g := gb634) (o := .cells #[.int .i64 a0_0, .int .i64 a0_1, .int .i64 a0_2, .int .i64 a0_3, .slice A0_4 l0_4.length c0_4] 26 (0, 0)) (by (with_reducible repeat (first | refine blk_drewN ?_ _ | refine blk_drew ?_ | refine blk_alloc ?_ _)); refine blk_far ?_ NB634_659.out _; (with_reducible repeat (first | refine blk_drewN ?_ _ | refine blk_drew ?_ | refine blk_alloc ?_ _)); refine blk_far ?_ NB634_659.out _; (with_reducible repeat (first | refine blk_drewN ?_ _ | refine blk_drew ?_ | refine blk_alloc ?_ _)); refine blk_far ?_ NB634_659.out _; (with_reducible repeat (first | refine blk_drewN ?_ _ | refine blk_drew ?_ | refine blk_alloc ?_ _)); refine blk_far ?_ NB634_659.out _; (with_reducible repeat (first | refine blk_drewN ?_ _ | refine blk_drew ?_ | refine blk_alloc ?_ _)); refine blk_far ?_ NB634_659.out _; (with_reducible repeat (first | refine blk_drewN ?_ _ | refine blk_drew ?_ | refine blk_alloc ?_ _)); exact BK634.out) hb); have n5_ := Aside0.mk (blk_below (g := gb651) (o := .cells #[.int .i64 t643, .int .i64 t644, .int .i64 t645, .int .i64 t646, .slice Ao22 t647.length co22] 31 (0, 0)) (by (with_reducible repeat (first | refine blk_drewN ?_ _ | refine blk_drew ?_ | refine blk_alloc ?_ _)); refine blk_far ?_ NB651_659.out _; (with_reducible repeat (first | refine blk_drewN ?_ _ | refine blk_drew ?_ | refine blk_alloc ?_ _)); refine blk_far ?_ NB651_659.out _; (with_reducible repeat (first | refine blk_drewN ?_ _ | refine blk_drew ?_ | refine blk_alloc ?_ _)); refine blk_far ?_ NB651_659.out _; (with_reducible repeat (first | refine blk_drewN ?_ _ | refine blk_drew ?_ | refine blk_alloc ?_ _)); refine blk_far ?_ NB651_659.out _; (with_reducible repeat (first | refine blk_drewN ?_ _ | refine blk_drew ?_ | refine blk_alloc ?_ _)); refine blk_far ?_ NB651_659.out _; (with_reducible repeat (first | refine blk_drewN ?_ _ | refine blk_drew ?_ | refine blk_alloc ?_ _)); exact BK651.out) hb); have n6_ := Aside0.mk (blk_below (g := gb659) (o := .cells #[.int .i64 t652, .int .i64 t653, .int .i64 t654, .int .i64 t655, .slice Ao29 t656.length co29] 31 (0, 0)) (by (with_reducible repeat (first | refine blk_drewN ?_ _ | refine blk_drew ?_ | refine blk_alloc ?_ _)); refine blk_put (cs := #[.int .i64 t652, .int .i64 t653, .int .i64 t654, .int .i64 t655, .slice none 0 0]) ?_ 4 _ rfl; (with_reducible repeat (first | refine blk_drewN ?_ _ | refine blk_drew ?_ | refine blk_alloc ?_ _)); refine blk_put (cs := #[.int .i64 t652, .int .i64 t653, .int .i64 t654, .int .i64 0, .slice none 0 0]) ?_ 3 _ rfl; (with_reducible repeat (first | refine blk_drewN ?_ _ | refine blk_drew ?_ | refine blk_alloc ?_ _)); refine blk_put (cs := #[.int .i64 t652, .int .i64 t653, .int .i64 0, .int .i64 0, .slice none 0 0]) ?_ 2 _ rfl; (with_reducible repeat (first | refine blk_drewN ?_ _ | refine blk_drew ?_ | refine blk_alloc ?_ _)); refine blk_put (cs := #[.int .i64 t652, .int .i64 0, .int .i64 0, .int .i64 0, .slice none 0 0]) ?_ 1 _ rfl; (with_reducible repeat (first | refine blk_drewN ?_ _ | refine blk_drew ?_ | refine blk_alloc ?_ _)); refine blk_put (cs := #[.int .i64 0, .int .i64 0, .int .i64 0, .int .i64 0, .slice none 0 0]) ?_ 0 _ rfl; (with_reducible repeat (first | refine blk_drewN ?_ _ | refine blk_drew ?_ | refine blk_alloc ?_ _)); exact BK659.out) hb); have n7_ := Aside0.mk (below_step (by repeat (first | (with_reducible first | exact HB.out | apply below_alloc | apply pw_below_drewN | apply below_drew1 | refine below_set ?_ GE634.out | refine below_set ?_ GE651.out | refine below_set ?_ GE659.out) | exact HB.out)) hb); clear HO642; clear HO649; clear HO658; clear BK634; clear BK651; clear BK659; clear HB; have HO642 := n0_; have HO649 := n1_; have HO658 := n2_; have HO666 := n3_; have BK634 := n4_; have BK651 := n5_; have BK659 := n6_; have HB := n7_; clear n0_ n1_ n2_ n3_ n4_ n5_ n6_ n7_; (try clear hb); (try clear hb2); (try clear hk); (try clear hi); (try clear ho0)) | ((with_reducible refine gate_dst (N := 7) rfl ?_); refine box_event ?hg (N := 7) ?hd (cs := #[.int .i64 0, .int .i64 0, .int .i64 0, .int .i64 0, .slice none 0 0]) (t := 31) ?hr ?_; (case hd => rfl); (case hg => rfl); (case hr => first | (go_simp; done) | (go_simp; rfl)); intro gb668 hg w31 hbox hb; have n0_ := Aside0.mk (Kd.R_below (by (with_reducible repeat (first | apply Kd.R_alloc | apply Kd.R_drewN | apply Kd.R_drew)); exact HO642.out) hb); have n1_ := Aside0.mk (Kd.R_below (by (with_reducible repeat (first | apply Kd.R_alloc | apply Kd.R_drewN | apply Kd.R_drew)); exact HO649.out) hb); have n2_ := Aside0.mk (Kd.R_below (by (with_reducible repeat (first | apply Kd.R_alloc | apply Kd.R_drewN | apply Kd.R_drew)); exact HO658.out) hb); have n3_ := Aside0.mk (Kd.R_below (by (with_reducible repeat (first | apply Kd.R_alloc | apply Kd.R_drewN | apply Kd.R_drew)); exact HO666.out) hb); have n4_ := Aside0.mk (blk_below (g := gb634) (o := .cells #[.int .i64 a0_0, .int .i64 a0_1, .int .i64 a0_2, .int .i64 a0_3, .slice A0_4 l0_4.length c0_4] 26 (0, 0)) (by (with_reducible repeat (first | refine blk_drewN ?_ _ | refine blk_drew ?_ | refine blk_alloc ?_ _)); exact BK634.out) hb); have n5_ := Aside0.mk (blk_below (g := gb651) (o := .cells #[.int .i64 t643, .int .i64 t644, .int .i64 t645, .int .i64 t646, .slice Ao22 t647.length co22] 31 (0, 0)) (by (with_reducible repeat (first | refine blk_drewN ?_ _ | refine blk_drew ?_ | refine blk_alloc ?_ _)); exact BK651.out) hb); have n6_ := Aside0.mk (blk_below (g := gb659) (o := .cells #[.int .i64 t652, .int .i64 t653, .int .i64 t654, .int .i64 t655, .slice Ao29 t656.length co29] 31 (0, 0)) (by (with_reducible repeat (first | refine blk_drewN ?_ _ | refine blk_drew ?_ | refine blk_alloc ?_ _)); exact BK659.out) hb); have n7_ := Aside0.mk (below_step (by repeat (first | (with_reducible first | exact HB.out | apply below_alloc | apply pw_below_drewN | apply below_drew1 | refine below_set ?_ GE634.out | refine below_set ?_ GE651.out | refine below_set ?_ GE659.out) | exact HB.out)) hb); have n8_ := Aside0.mk (hbox); have n9_ := Aside0.mk ((by rw [hg]; exact (below_size (by repeat (first | (with_reducible first | exact HB.out | apply below_alloc | apply pw_below_drewN | apply below_drew1 | refine below_set ?_ GE634.out | refine below_set ?_ GE651.out | refine below_set ?_ GE659.out) | exact HB.out))) : w.heap.size ≤ gb668)); have n10_ := Aside0.mk ((by rw [hg]; exact (below_size (by repeat (first | (with_reducible first | exact HB.out | apply below_alloc | apply pw_below_drewN | apply below_drew1 | refine below_set ?_ GE634.out | refine below_set ?_ GE651.out | refine below_set ?_ GE659.out) | exact HB.out))) : w.heap.size ≤ gb668)); have n11_ := Aside0.mk ((by rw [hg]; exact Nat.ne_of_lt (blk_lt (g := gb634) (o := .cells #[.int .i64 a0_0, .int .i64 a0_1, .int .i64 a0_2, .int .i64 a0_3, .slice A0_4 l0_4.length c0_4] 26 (0, 0)) (by (with_reducible repeat (first | refine blk_drewN ?_ _ | refine blk_drew ?_ | refine blk_alloc ?_ _)); exact BK634.out)) : gb634 ≠ gb668)); have n12_ := Aside0.mk ((by rw [hg]; exact Nat.ne_of_gt (blk_lt (g := gb634) (o := .cells #[.int .i64 a0_0, .int .i64 a0_1, .int .i64 a0_2, .int .i64 a0_3, .slice A0_4 l0_4.length c0_4] 26 (0, 0)) (by (with_reducible repeat (first | refine blk_drewN ?_ _ | refine blk_drew ?_ | refine blk_alloc ?_ _)); exact BK634.out)) : gb668 ≠ gb634)); have n13_ := Aside0.mk ((by rw [hg]; exact Nat.ne_of_lt (blk_lt (g := gb651) (o := .cells #[.int .i64 t643, .int .i64 t644, .int .i64 t645, .int .i64 t646, .slice Ao22 t647.length co22] 31 (0, 0)) (by (with_reducible repeat (first | refine blk_drewN ?_ _ | refine blk_drew ?_ | refine blk_alloc ?_ _)); exact BK651.out)) : gb651 ≠ gb668)); have n14_ := Aside0.mk ((by rw [hg]; exact Nat.ne_of_gt (blk_lt (g := gb651) (o := .cells #[.int .i64 t643, .int .i64 t644, .int .i64 t645, .int .i64 t646, .slice Ao22 t647.length co22] 31 (0, 0)) (by (with_reducible repeat (first | refine blk_drewN ?_ _ | refine blk_drew ?_ | refine blk_alloc ?_ _)); exact BK651.out)) : gb668 ≠ gb651)); have n15_ := Aside0.mk ((by rw [hg]; exact Nat.ne_of_lt (blk_lt (g := gb659) (o := .cells #[.int .i64 t652, .int .i64 t653, .int .i64 t654, .int .i64 t655, .slice Ao29 t656.length co29] 31 (0, 0)) (by (with_reducible repeat (first | refine blk_drewN ?_ _ | refine blk_drew ?_ | refine blk_alloc ?_ _)); exact BK659.out)) : gb659 ≠ gb668)); have n16_ := Aside0.mk ((by rw [hg]; exact Nat.ne_of_gt (blk_lt (g := gb659) (o := .cells #[.int .i64 t652, .int .i64 t653, .int .i64 t654, .int .i64 t655, .slice Ao29 t656.length co29] 31 (0, 0)) (by (with_reducible repeat (first | refine blk_drewN ?_ _ | refine blk_drew ?_ | refine blk_alloc ?_ _)); exact BK659.out)) : gb668 ≠ gb659)); clear HO642; clear HO649; clear HO658; clear HO666; clear BK634; clear BK651; clear BK659; clear HB; have HO642 := n0_; have HO649 := n1_; have HO658 := n2_; have HO666 := n3_; have BK634 := n4_; have BK651 := n5_; have BK659 := n6_; have HB := n7_; have BK668 := n8_; have GW668 := n9_; have GE668 := n10_; have NB634_668 := n11_; have NB668_634 := n12_; have NB651_668 := n13_; have NB668_651 := n14_; have NB659_668 := n15_; have NB668_659 := n16_; clear n0_ n1_ n2_ n3_ n4_ n5_ n6_ n7_ n8_ n9_ n10_ n11_ n12_ n13_ n14_ n15_ n16_; clear hb hbox hg; have hnb32 := NB668_634.out; have hnc32 := NB634_668.out; have hnb33 := NB668_651.out; have hnc33 := NB651_668.out; have hnb34 := NB668_659.out; have hnc34 := NB659_668.out; have hcz35_0 : w31.cell? ⟨gb668, 0, none⟩ = some (.int .i64 0) := (blk_cell BK668.out 0).trans rfl; have hcz35_1 : w31.cell? ⟨gb668, 1, none⟩ = some (.int .i64 0) := (blk_cell BK668.out 1).trans rfl; have hcz35_2 : w31.cell? ⟨gb668, 2, none⟩ = some (.int .i64 0) := (blk_cell BK668.out 2).trans rfl; have hcz35_3 : w31.cell? ⟨gb668, 3, none⟩ = some (.int .i64 0) := (blk_cell BK668.out 3).trans rfl; have hcz35_4 : w31.cell? ⟨gb668, 4, none⟩ = some (.slice none 0 0) := (blk_cell BK668.out 4).trans rfl; have hfz35_0 := blk_frozen BK668.out 0; have hfz35_1 := blk_frozen BK668.out 1; have hfz35_2 := blk_frozen BK668.out 2; have hfz35_3 := blk_frozen BK668.out 3; have hfz35_4 := blk_frozen BK668.out 4; obtain ⟨Ao36, co36, eo36⟩ := Kd.R_slice HO666.out; subst eo36))
    (try simp only [Act.put, List.setIfInBounds_toArray, List.set_cons_zero, List.set_cons_succ])
    go_cut [40] (fun v40 wc => ∃ (kq : Nat) (x40_10 : Bool), v40 = .bool x40_10 ∧ Aside0 (laws_FnExactFirstCome.j0 kq t650 t667 x40_10 a0_0 a0_1 a0_2 a0_3 l0_4 t643 t644 t645 t646 t647 t652 t653 t654 t655 t656 t660 t661 t662 t663 t664 = some true) ∧ Aside0 (kq ≤ k) ∧ Aside0 (Kd.R (Kd.int .i64) 2 wc w.heap.size (fun k_ => some k_ ≠ ((.slice Ao29 t656.length co29) : Value).ownBlock ∧ some k_ ≠ ((.slice Ao36 t664.length co36) : Value).ownBlock) (.slice Ao22 t647.length co22) t647) ∧ Aside0 (Kd.R (Kd.int .i64) 2 wc w.heap.size (fun k_ => some k_ ≠ ((.slice Ao22 t647.length co22) : Value).ownBlock ∧ some k_ ≠ ((.slice Ao36 t664.length co36) : Value).ownBlock) (.slice Ao29 t656.length co29) t656) ∧ Aside0 (Kd.R (Kd.int .i64) 2 wc w.heap.size (fun k_ => some k_ ≠ ((.slice Ao22 t647.length co22) : Value).ownBlock ∧ some k_ ≠ ((.slice Ao29 t656.length co29) : Value).ownBlock) (.slice Ao36 t664.length co36) t664) ∧ Aside0 (wc.heap[gb634]? = some (.cells #[.int .i64 a0_0, .int .i64 a0_1, .int .i64 a0_2, .int .i64 a0_3, (.slice A0_4 l0_4.length c0_4)] 26 (0, 0))) ∧ Aside0 (wc.heap[gb651]? = some (.cells #[.int .i64 t643, .int .i64 t644, .int .i64 t645, .int .i64 t646, (.slice Ao22 t647.length co22)] 31 (0, 0))) ∧ Aside0 (wc.heap[gb659]? = some (.cells #[.int .i64 t652, .int .i64 t653, .int .i64 t654, .int .i64 t655, (.slice Ao29 t656.length co29)] 31 (0, 0))) ∧ Aside0 (wc.heap[gb668]? = some (.cells #[.int .i64 t660, .int .i64 t661, .int .i64 t662, .int .i64 t663, (.slice Ao36 t664.length co36)] 31 (0, 0))) ∧ Aside0 (Below w.heap.size w wc))
    case first =>
      have H := HC11.out
      clear HC11
      replace H := Option.bind_eq_some_iff.mp H
      obtain ⟨t669, A370, H⟩ := H
      replace H : (if t669 = true then (laws_FnExactFirstCome.j0 k t650 t667 (t667 != t650) a0_0 a0_1 a0_2 a0_3 l0_4 t643 t644 t645 t646 t647 t652 t653 t654 t655 t656 t660 t661 t662 t663 t664) else (laws_FnExactFirstCome.j0 k t650 t667 true a0_0 a0_1 a0_2 a0_3 l0_4 t643 t644 t645 t646 t647 t652 t653 t654 t655 t656 t660 t661 t662 t663 t664)) = some true := H
      have A37 := Aside0.mk A370
      clear A370
      by_cases c38 : t669 = true
      · subst c38
        have H1 : (laws_FnExactFirstCome.j0 k t650 t667 (t667 != t650) a0_0 a0_1 a0_2 a0_3 l0_4 t643 t644 t645 t646 t647 t652 t653 t654 t655 t656 t660 t661 t662 t663 t664) = some true := by rw [if_pos rfl] at H; first | done | exact H
        clear H
        have H := H1
        clear H1
        have H' := Aside0.mk H
        clear H
        have hnb39 := NB668_634.out
        have hnc39 := NB634_668.out
        have hnb40 := NB668_651.out
        have hnc40 := NB651_668.out
        have hnb41 := NB668_659.out
        have hnc41 := NB659_668.out
        have hcz42_0 : w31.cell? ⟨gb668, 0, none⟩ = some (.int .i64 0) := (blk_cell BK668.out 0).trans rfl
        have hcz42_1 : w31.cell? ⟨gb668, 1, none⟩ = some (.int .i64 0) := (blk_cell BK668.out 1).trans rfl
        have hcz42_2 : w31.cell? ⟨gb668, 2, none⟩ = some (.int .i64 0) := (blk_cell BK668.out 2).trans rfl
        have hcz42_3 : w31.cell? ⟨gb668, 3, none⟩ = some (.int .i64 0) := (blk_cell BK668.out 3).trans rfl
        have hcz42_4 : w31.cell? ⟨gb668, 4, none⟩ = some (.slice none 0 0) := (blk_cell BK668.out 4).trans rfl
        have hfz42_0 := blk_frozen BK668.out 0
        have hfz42_1 := blk_frozen BK668.out 1
        have hfz42_2 := blk_frozen BK668.out 2
        have hfz42_3 := blk_frozen BK668.out 3
        have hfz42_4 := blk_frozen BK668.out 4
        have hnb43 := NB651_634.out
        have hnc43 := NB634_651.out
        have hnb44 := NB651_659.out
        have hnc44 := NB659_651.out
        have hcz45_0 : w31.cell? ⟨gb651, 0, none⟩ = some (.int .i64 t643) := (blk_cell BK651.out 0).trans rfl
        have hcz45_1 : w31.cell? ⟨gb651, 1, none⟩ = some (.int .i64 t644) := (blk_cell BK651.out 1).trans rfl
        have hcz45_2 : w31.cell? ⟨gb651, 2, none⟩ = some (.int .i64 t645) := (blk_cell BK651.out 2).trans rfl
        have hcz45_3 : w31.cell? ⟨gb651, 3, none⟩ = some (.int .i64 t646) := (blk_cell BK651.out 3).trans rfl
        have hcz45_4 : w31.cell? ⟨gb651, 4, none⟩ = some (.slice Ao22 t647.length co22) := (blk_cell BK651.out 4).trans rfl
        have hfz45_0 := blk_frozen BK651.out 0
        have hfz45_1 := blk_frozen BK651.out 1
        have hfz45_2 := blk_frozen BK651.out 2
        have hfz45_3 := blk_frozen BK651.out 3
        have hfz45_4 := blk_frozen BK651.out 4
        go_wp2_with (first | ((with_reducible refine gate_callee (f := 14) rfl ?_); refine goesL_ (some 34) rfl rfl Try.func14 (by kernel_rfl) rfl #[.agg #[.int .i64 t660, .int .i64 t661, .int .i64 t662, .int .i64 t663, .slice Ao36 t664.length co36], .agg #[.int .i64 t643, .int .i64 t644, .int .i64 t645, .int .i64 t646, .slice Ao22 t647.length co22]] rfl (by (try simp only [List.map_toArray, List.map_cons, List.map_nil]); first | done | rfl | (simp only [List.length_drop, List.length_take]; rfl)) ?_; (with_reducible refine (laws_eqPattern.calls k t660 t661 t662 t663 _ _ t664 t643 t644 t645 t646 _ _ t647 true _ ?side1 ?side2 ?side3 ?side4 A37.out).mono ?_); (case side1 => refine (Kd.R_reads' (e := 2) (base := w.heap.size) (ok := fun k_ => (((True ∧ some k_ ≠ (.slice Ao17 t640.length co17 : Value).ownBlock) ∧ some k_ ≠ (.slice Ao22 t647.length co22 : Value).ownBlock) ∧ some k_ ≠ (.slice Ao29 t656.length co29 : Value).ownBlock)) (n := t664.length) (c := co36) ?_).2.2; exact (by (with_reducible repeat (first | apply Kd.R_alloc | apply Kd.R_drewN | apply Kd.R_drew)); exact (Kd.R_mono (Kd.R_far (p := ⟨gb668, 4, none⟩) (Kd.R_far (p := ⟨gb668, 3, none⟩) (Kd.R_far (p := ⟨gb668, 2, none⟩) (Kd.R_far (p := ⟨gb668, 1, none⟩) (Kd.R_far (p := ⟨gb668, 0, none⟩) (Kd.R_types HO666.out BK668.out (by decide)) (fun _ hk => hk.2) (.int .i64 t660)) (fun _ hk => hk.2) (.int .i64 t661)) (fun _ hk => hk.2) (.int .i64 t662)) (fun _ hk => hk.2) (.int .i64 t663)) (fun _ hk => hk.2) (.slice Ao36 t664.length co36)) (fun _ h_ => h_.1)))); (case side2 => exact (Kd.R_reads' HO666.out).2.1); (case side3 => refine (Kd.R_reads' (e := 2) (base := w.heap.size) (ok := fun k_ => (((True ∧ some k_ ≠ (.slice Ao17 t640.length co17 : Value).ownBlock) ∧ some k_ ≠ (.slice Ao29 t656.length co29 : Value).ownBlock) ∧ some k_ ≠ (.slice Ao36 t664.length co36 : Value).ownBlock)) (n := t647.length) (c := co22) ?_).2.2; exact (by (with_reducible repeat (first | apply Kd.R_alloc | apply Kd.R_drewN | apply Kd.R_drew)); exact (Kd.R_mono (Kd.R_far (p := ⟨gb668, 4, none⟩) (Kd.R_far (p := ⟨gb668, 3, none⟩) (Kd.R_far (p := ⟨gb668, 2, none⟩) (Kd.R_far (p := ⟨gb668, 1, none⟩) (Kd.R_far (p := ⟨gb668, 0, none⟩) (Kd.R_types HO649.out BK668.out (by decide)) (fun _ hk => hk.2) (.int .i64 t660)) (fun _ hk => hk.2) (.int .i64 t661)) (fun _ hk => hk.2) (.int .i64 t662)) (fun _ hk => hk.2) (.int .i64 t663)) (fun _ hk => hk.2) (.slice Ao36 t664.length co36)) (fun _ h_ => h_.1)))); (case side4 => exact (Kd.R_reads' HO649.out).2.1); rintro e w46 ⟨rfl, hb⟩; refine ⟨_, rfl, ?_⟩; have n0_ := Aside0.mk (Kd.R_below (by (with_reducible repeat (first | apply Kd.R_alloc | apply Kd.R_drewN | apply Kd.R_drew)); exact (Kd.R_mono (Kd.R_far (p := ⟨gb668, 4, none⟩) (Kd.R_far (p := ⟨gb668, 3, none⟩) (Kd.R_far (p := ⟨gb668, 2, none⟩) (Kd.R_far (p := ⟨gb668, 1, none⟩) (Kd.R_far (p := ⟨gb668, 0, none⟩) (Kd.R_types HO642.out BK668.out (by decide)) (fun _ hk => hk.2) (.int .i64 t660)) (fun _ hk => hk.2) (.int .i64 t661)) (fun _ hk => hk.2) (.int .i64 t662)) (fun _ hk => hk.2) (.int .i64 t663)) (fun _ hk => hk.2) (.slice Ao36 t664.length co36)) (fun _ h_ => h_.1))) hb); have n1_ := Aside0.mk (Kd.R_below (by (with_reducible repeat (first | apply Kd.R_alloc | apply Kd.R_drewN | apply Kd.R_drew)); exact (Kd.R_mono (Kd.R_far (p := ⟨gb668, 4, none⟩) (Kd.R_far (p := ⟨gb668, 3, none⟩) (Kd.R_far (p := ⟨gb668, 2, none⟩) (Kd.R_far (p := ⟨gb668, 1, none⟩) (Kd.R_far (p := ⟨gb668, 0, none⟩) (Kd.R_types HO649.out BK668.out (by decide)) (fun _ hk => hk.2) (.int .i64 t660)) (fun _ hk => hk.2) (.int .i64 t661)) (fun _ hk => hk.2) (.int .i64 t662)) (fun _ hk => hk.2) (.int .i64 t663)) (fun _ hk => hk.2) (.slice Ao36 t664.length co36)) (fun _ h_ => h_.1))) hb); have n2_ := Aside0.mk (Kd.R_below (by (with_reducible repeat (first | apply Kd.R_alloc | apply Kd.R_drewN | apply Kd.R_drew)); exact (Kd.R_mono (Kd.R_far (p := ⟨gb668, 4, none⟩) (Kd.R_far (p := ⟨gb668, 3, none⟩) (Kd.R_far (p := ⟨gb668, 2, none⟩) (Kd.R_far (p := ⟨gb668, 1, none⟩) (Kd.R_far (p := ⟨gb668, 0, none⟩) (Kd.R_types HO658.out BK668.out (by decide)) (fun _ hk => hk.2) (.int .i64 t660)) (fun _ hk => hk.2) (.int .i64 t661)) (fun _ hk => hk.2) (.int .i64 t662)) (fun _ hk => hk.2) (.int .i64 t663)) (fun _ hk => hk.2) (.slice Ao36 t664.length co36)) (fun _ h_ => h_.1))) hb); have n3_ := Aside0.mk (Kd.R_below (by (with_reducible repeat (first | apply Kd.R_alloc | apply Kd.R_drewN | apply Kd.R_drew)); exact (Kd.R_mono (Kd.R_far (p := ⟨gb668, 4, none⟩) (Kd.R_far (p := ⟨gb668, 3, none⟩) (Kd.R_far (p := ⟨gb668, 2, none⟩) (Kd.R_far (p := ⟨gb668, 1, none⟩) (Kd.R_far (p := ⟨gb668, 0, none⟩) (Kd.R_types HO666.out BK668.out (by decide)) (fun _ hk => hk.2) (.int .i64 t660)) (fun _ hk => hk.2) (.int .i64 t661)) (fun _ hk => hk.2) (.int .i64 t662)) (fun _ hk => hk.2) (.int .i64 t663)) (fun _ hk => hk.2) (.slice Ao36 t664.length co36)) (fun _ h_ => h_.1))) hb); have n4_ := Aside0.mk (blk_below (g := gb634) (o := .cells #[.int .i64 a0_0, .int .i64 a0_1, .int .i64 a0_2, .int .i64 a0_3, .slice A0_4 l0_4.length c0_4] 26 (0, 0)) (by (with_reducible repeat (first | refine blk_drewN ?_ _ | refine blk_drew ?_ | refine blk_alloc ?_ _)); refine blk_far ?_ NB634_668.out _; (with_reducible repeat (first | refine blk_drewN ?_ _ | refine blk_drew ?_ | refine blk_alloc ?_ _)); refine blk_far ?_ NB634_668.out _; (with_reducible repeat (first | refine blk_drewN ?_ _ | refine blk_drew ?_ | refine blk_alloc ?_ _)); refine blk_far ?_ NB634_668.out _; (with_reducible repeat (first | refine blk_drewN ?_ _ | refine blk_drew ?_ | refine blk_alloc ?_ _)); refine blk_far ?_ NB634_668.out _; (with_reducible repeat (first | refine blk_drewN ?_ _ | refine blk_drew ?_ | refine blk_alloc ?_ _)); refine blk_far ?_ NB634_668.out _; (with_reducible repeat (first | refine blk_drewN ?_ _ | refine blk_drew ?_ | refine blk_alloc ?_ _)); exact BK634.out) hb); have n5_ := Aside0.mk (blk_below (g := gb651) (o := .cells #[.int .i64 t643, .int .i64 t644, .int .i64 t645, .int .i64 t646, .slice Ao22 t647.length co22] 31 (0, 0)) (by (with_reducible repeat (first | refine blk_drewN ?_ _ | refine blk_drew ?_ | refine blk_alloc ?_ _)); refine blk_far ?_ NB651_668.out _; (with_reducible repeat (first | refine blk_drewN ?_ _ | refine blk_drew ?_ | refine blk_alloc ?_ _)); refine blk_far ?_ NB651_668.out _; (with_reducible repeat (first | refine blk_drewN ?_ _ | refine blk_drew ?_ | refine blk_alloc ?_ _)); refine blk_far ?_ NB651_668.out _; (with_reducible repeat (first | refine blk_drewN ?_ _ | refine blk_drew ?_ | refine blk_alloc ?_ _)); refine blk_far ?_ NB651_668.out _; (with_reducible repeat (first | refine blk_drewN ?_ _ | refine blk_drew ?_ | refine blk_alloc ?_ _)); refine blk_far ?_ NB651_668.out _; (with_reducible repeat (first | refine blk_drewN ?_ _ | refine blk_drew ?_ | refine blk_alloc ?_ _)); exact BK651.out) hb); have n6_ := Aside0.mk (blk_below (g := gb659) (o := .cells #[.int .i64 t652, .int .i64 t653, .int .i64 t654, .int .i64 t655, .slice Ao29 t656.length co29] 31 (0, 0)) (by (with_reducible repeat (first | refine blk_drewN ?_ _ | refine blk_drew ?_ | refine blk_alloc ?_ _)); refine blk_far ?_ NB659_668.out _; (with_reducible repeat (first | refine blk_drewN ?_ _ | refine blk_drew ?_ | refine blk_alloc ?_ _)); refine blk_far ?_ NB659_668.out _; (with_reducible repeat (first | refine blk_drewN ?_ _ | refine blk_drew ?_ | refine blk_alloc ?_ _)); refine blk_far ?_ NB659_668.out _; (with_reducible repeat (first | refine blk_drewN ?_ _ | refine blk_drew ?_ | refine blk_alloc ?_ _)); refine blk_far ?_ NB659_668.out _; (with_reducible repeat (first | refine blk_drewN ?_ _ | refine blk_drew ?_ | refine blk_alloc ?_ _)); refine blk_far ?_ NB659_668.out _; (with_reducible repeat (first | refine blk_drewN ?_ _ | refine blk_drew ?_ | refine blk_alloc ?_ _)); exact BK659.out) hb); have n7_ := Aside0.mk (blk_below (g := gb668) (o := .cells #[.int .i64 t660, .int .i64 t661, .int .i64 t662, .int .i64 t663, .slice Ao36 t664.length co36] 31 (0, 0)) (by (with_reducible repeat (first | refine blk_drewN ?_ _ | refine blk_drew ?_ | refine blk_alloc ?_ _)); refine blk_put (cs := #[.int .i64 t660, .int .i64 t661, .int .i64 t662, .int .i64 t663, .slice none 0 0]) ?_ 4 _ rfl; (with_reducible repeat (first | refine blk_drewN ?_ _ | refine blk_drew ?_ | refine blk_alloc ?_ _)); refine blk_put (cs := #[.int .i64 t660, .int .i64 t661, .int .i64 t662, .int .i64 0, .slice none 0 0]) ?_ 3 _ rfl; (with_reducible repeat (first | refine blk_drewN ?_ _ | refine blk_drew ?_ | refine blk_alloc ?_ _)); refine blk_put (cs := #[.int .i64 t660, .int .i64 t661, .int .i64 0, .int .i64 0, .slice none 0 0]) ?_ 2 _ rfl; (with_reducible repeat (first | refine blk_drewN ?_ _ | refine blk_drew ?_ | refine blk_alloc ?_ _)); refine blk_put (cs := #[.int .i64 t660, .int .i64 0, .int .i64 0, .int .i64 0, .slice none 0 0]) ?_ 1 _ rfl; (with_reducible repeat (first | refine blk_drewN ?_ _ | refine blk_drew ?_ | refine blk_alloc ?_ _)); refine blk_put (cs := #[.int .i64 0, .int .i64 0, .int .i64 0, .int .i64 0, .slice none 0 0]) ?_ 0 _ rfl; (with_reducible repeat (first | refine blk_drewN ?_ _ | refine blk_drew ?_ | refine blk_alloc ?_ _)); exact BK668.out) hb); have n8_ := Aside0.mk (below_step (by repeat (first | (with_reducible first | exact HB.out | apply below_alloc | apply pw_below_drewN | apply below_drew1 | refine below_set ?_ GE634.out | refine below_set ?_ GE651.out | refine below_set ?_ GE659.out | refine below_set ?_ GE668.out) | exact HB.out)) hb); clear HO642; clear HO649; clear HO658; clear HO666; clear BK634; clear BK651; clear BK659; clear BK668; clear HB; have HO642 := n0_; have HO649 := n1_; have HO658 := n2_; have HO666 := n3_; have BK634 := n4_; have BK651 := n5_; have BK659 := n6_; have BK668 := n7_; have HB := n8_; clear n0_ n1_ n2_ n3_ n4_ n5_ n6_ n7_ n8_; (try clear hb); (try clear hb2); (try clear hk); (try clear hi)))
        go_meet
        case rel => exact ⟨_, ((t667 != t650)), (by first | rfl | (simp; done) | (simp [*]; done)), H', ⟨by first | omega | exact Nat.le_refl _⟩, ⟨by (with_reducible repeat (first | apply Kd.R_alloc | apply Kd.R_drewN | apply Kd.R_drew)); exact Kd.R_mono HO649.out (fun _ hk => ⟨hk.1.2, hk.2⟩)⟩, ⟨by (with_reducible repeat (first | apply Kd.R_alloc | apply Kd.R_drewN | apply Kd.R_drew)); exact Kd.R_mono HO658.out (fun _ hk => ⟨hk.1.2, hk.2⟩)⟩, ⟨by (with_reducible repeat (first | apply Kd.R_alloc | apply Kd.R_drewN | apply Kd.R_drew)); exact Kd.R_mono HO666.out (fun _ hk => ⟨hk.1.2, hk.2⟩)⟩, ⟨by (with_reducible repeat (first | refine blk_drewN ?_ _ | refine blk_drew ?_ | refine blk_alloc ?_ _)); exact BK634.out⟩, ⟨by (with_reducible repeat (first | refine blk_drewN ?_ _ | refine blk_drew ?_ | refine blk_alloc ?_ _)); exact BK651.out⟩, ⟨by (with_reducible repeat (first | refine blk_drewN ?_ _ | refine blk_drew ?_ | refine blk_alloc ?_ _)); exact BK659.out⟩, ⟨by (with_reducible repeat (first | refine blk_drewN ?_ _ | refine blk_drew ?_ | refine blk_alloc ?_ _)); exact BK668.out⟩, ⟨by repeat (first | (with_reducible first | exact HB.out | apply below_alloc | apply pw_below_drewN | apply below_drew1 | refine below_set ?_ GE634.out | refine below_set ?_ GE651.out | refine below_set ?_ GE659.out | refine below_set ?_ GE668.out) | exact HB.out)⟩⟩
      · replace c38 := Bool.eq_false_iff.mpr c38
        subst c38
        have H1 : (laws_FnExactFirstCome.j0 k t650 t667 true a0_0 a0_1 a0_2 a0_3 l0_4 t643 t644 t645 t646 t647 t652 t653 t654 t655 t656 t660 t661 t662 t663 t664) = some true := by rw [if_neg (show ¬ (false = true) by decide)] at H; first | done | exact H
        clear H
        have H := H1
        clear H1
        have H' := Aside0.mk H
        clear H
        have hnb47 := NB668_634.out
        have hnc47 := NB634_668.out
        have hnb48 := NB668_651.out
        have hnc48 := NB651_668.out
        have hnb49 := NB668_659.out
        have hnc49 := NB659_668.out
        have hcz50_0 : w31.cell? ⟨gb668, 0, none⟩ = some (.int .i64 0) := (blk_cell BK668.out 0).trans rfl
        have hcz50_1 : w31.cell? ⟨gb668, 1, none⟩ = some (.int .i64 0) := (blk_cell BK668.out 1).trans rfl
        have hcz50_2 : w31.cell? ⟨gb668, 2, none⟩ = some (.int .i64 0) := (blk_cell BK668.out 2).trans rfl
        have hcz50_3 : w31.cell? ⟨gb668, 3, none⟩ = some (.int .i64 0) := (blk_cell BK668.out 3).trans rfl
        have hcz50_4 : w31.cell? ⟨gb668, 4, none⟩ = some (.slice none 0 0) := (blk_cell BK668.out 4).trans rfl
        have hfz50_0 := blk_frozen BK668.out 0
        have hfz50_1 := blk_frozen BK668.out 1
        have hfz50_2 := blk_frozen BK668.out 2
        have hfz50_3 := blk_frozen BK668.out 3
        have hfz50_4 := blk_frozen BK668.out 4
        have hnb51 := NB651_634.out
        have hnc51 := NB634_651.out
        have hnb52 := NB651_659.out
        have hnc52 := NB659_651.out
        have hcz53_0 : w31.cell? ⟨gb651, 0, none⟩ = some (.int .i64 t643) := (blk_cell BK651.out 0).trans rfl
        have hcz53_1 : w31.cell? ⟨gb651, 1, none⟩ = some (.int .i64 t644) := (blk_cell BK651.out 1).trans rfl
        have hcz53_2 : w31.cell? ⟨gb651, 2, none⟩ = some (.int .i64 t645) := (blk_cell BK651.out 2).trans rfl
        have hcz53_3 : w31.cell? ⟨gb651, 3, none⟩ = some (.int .i64 t646) := (blk_cell BK651.out 3).trans rfl
        have hcz53_4 : w31.cell? ⟨gb651, 4, none⟩ = some (.slice Ao22 t647.length co22) := (blk_cell BK651.out 4).trans rfl
        have hfz53_0 := blk_frozen BK651.out 0
        have hfz53_1 := blk_frozen BK651.out 1
        have hfz53_2 := blk_frozen BK651.out 2
        have hfz53_3 := blk_frozen BK651.out 3
        have hfz53_4 := blk_frozen BK651.out 4
        go_wp2_with (first | ((with_reducible refine gate_callee (f := 14) rfl ?_); refine goesL_ (some 34) rfl rfl Try.func14 (by kernel_rfl) rfl #[.agg #[.int .i64 t660, .int .i64 t661, .int .i64 t662, .int .i64 t663, .slice Ao36 t664.length co36], .agg #[.int .i64 t643, .int .i64 t644, .int .i64 t645, .int .i64 t646, .slice Ao22 t647.length co22]] rfl (by (try simp only [List.map_toArray, List.map_cons, List.map_nil]); first | done | rfl | (simp only [List.length_drop, List.length_take]; rfl)) ?_; (with_reducible refine (laws_eqPattern.calls k t660 t661 t662 t663 _ _ t664 t643 t644 t645 t646 _ _ t647 false _ ?side1 ?side2 ?side3 ?side4 A37.out).mono ?_); (case side1 => refine (Kd.R_reads' (e := 2) (base := w.heap.size) (ok := fun k_ => (((True ∧ some k_ ≠ (.slice Ao17 t640.length co17 : Value).ownBlock) ∧ some k_ ≠ (.slice Ao22 t647.length co22 : Value).ownBlock) ∧ some k_ ≠ (.slice Ao29 t656.length co29 : Value).ownBlock)) (n := t664.length) (c := co36) ?_).2.2; exact (by (with_reducible repeat (first | apply Kd.R_alloc | apply Kd.R_drewN | apply Kd.R_drew)); exact (Kd.R_mono (Kd.R_far (p := ⟨gb668, 4, none⟩) (Kd.R_far (p := ⟨gb668, 3, none⟩) (Kd.R_far (p := ⟨gb668, 2, none⟩) (Kd.R_far (p := ⟨gb668, 1, none⟩) (Kd.R_far (p := ⟨gb668, 0, none⟩) (Kd.R_types HO666.out BK668.out (by decide)) (fun _ hk => hk.2) (.int .i64 t660)) (fun _ hk => hk.2) (.int .i64 t661)) (fun _ hk => hk.2) (.int .i64 t662)) (fun _ hk => hk.2) (.int .i64 t663)) (fun _ hk => hk.2) (.slice Ao36 t664.length co36)) (fun _ h_ => h_.1)))); (case side2 => exact (Kd.R_reads' HO666.out).2.1); (case side3 => refine (Kd.R_reads' (e := 2) (base := w.heap.size) (ok := fun k_ => (((True ∧ some k_ ≠ (.slice Ao17 t640.length co17 : Value).ownBlock) ∧ some k_ ≠ (.slice Ao29 t656.length co29 : Value).ownBlock) ∧ some k_ ≠ (.slice Ao36 t664.length co36 : Value).ownBlock)) (n := t647.length) (c := co22) ?_).2.2; exact (by (with_reducible repeat (first | apply Kd.R_alloc | apply Kd.R_drewN | apply Kd.R_drew)); exact (Kd.R_mono (Kd.R_far (p := ⟨gb668, 4, none⟩) (Kd.R_far (p := ⟨gb668, 3, none⟩) (Kd.R_far (p := ⟨gb668, 2, none⟩) (Kd.R_far (p := ⟨gb668, 1, none⟩) (Kd.R_far (p := ⟨gb668, 0, none⟩) (Kd.R_types HO649.out BK668.out (by decide)) (fun _ hk => hk.2) (.int .i64 t660)) (fun _ hk => hk.2) (.int .i64 t661)) (fun _ hk => hk.2) (.int .i64 t662)) (fun _ hk => hk.2) (.int .i64 t663)) (fun _ hk => hk.2) (.slice Ao36 t664.length co36)) (fun _ h_ => h_.1)))); (case side4 => exact (Kd.R_reads' HO649.out).2.1); rintro e w54 ⟨rfl, hb⟩; refine ⟨_, rfl, ?_⟩; have n0_ := Aside0.mk (Kd.R_below (by (with_reducible repeat (first | apply Kd.R_alloc | apply Kd.R_drewN | apply Kd.R_drew)); exact (Kd.R_mono (Kd.R_far (p := ⟨gb668, 4, none⟩) (Kd.R_far (p := ⟨gb668, 3, none⟩) (Kd.R_far (p := ⟨gb668, 2, none⟩) (Kd.R_far (p := ⟨gb668, 1, none⟩) (Kd.R_far (p := ⟨gb668, 0, none⟩) (Kd.R_types HO642.out BK668.out (by decide)) (fun _ hk => hk.2) (.int .i64 t660)) (fun _ hk => hk.2) (.int .i64 t661)) (fun _ hk => hk.2) (.int .i64 t662)) (fun _ hk => hk.2) (.int .i64 t663)) (fun _ hk => hk.2) (.slice Ao36 t664.length co36)) (fun _ h_ => h_.1))) hb); have n1_ := Aside0.mk (Kd.R_below (by (with_reducible repeat (first | apply Kd.R_alloc | apply Kd.R_drewN | apply Kd.R_drew)); exact (Kd.R_mono (Kd.R_far (p := ⟨gb668, 4, none⟩) (Kd.R_far (p := ⟨gb668, 3, none⟩) (Kd.R_far (p := ⟨gb668, 2, none⟩) (Kd.R_far (p := ⟨gb668, 1, none⟩) (Kd.R_far (p := ⟨gb668, 0, none⟩) (Kd.R_types HO649.out BK668.out (by decide)) (fun _ hk => hk.2) (.int .i64 t660)) (fun _ hk => hk.2) (.int .i64 t661)) (fun _ hk => hk.2) (.int .i64 t662)) (fun _ hk => hk.2) (.int .i64 t663)) (fun _ hk => hk.2) (.slice Ao36 t664.length co36)) (fun _ h_ => h_.1))) hb); have n2_ := Aside0.mk (Kd.R_below (by (with_reducible repeat (first | apply Kd.R_alloc | apply Kd.R_drewN | apply Kd.R_drew)); exact (Kd.R_mono (Kd.R_far (p := ⟨gb668, 4, none⟩) (Kd.R_far (p := ⟨gb668, 3, none⟩) (Kd.R_far (p := ⟨gb668, 2, none⟩) (Kd.R_far (p := ⟨gb668, 1, none⟩) (Kd.R_far (p := ⟨gb668, 0, none⟩) (Kd.R_types HO658.out BK668.out (by decide)) (fun _ hk => hk.2) (.int .i64 t660)) (fun _ hk => hk.2) (.int .i64 t661)) (fun _ hk => hk.2) (.int .i64 t662)) (fun _ hk => hk.2) (.int .i64 t663)) (fun _ hk => hk.2) (.slice Ao36 t664.length co36)) (fun _ h_ => h_.1))) hb); have n3_ := Aside0.mk (Kd.R_below (by (with_reducible repeat (first | apply Kd.R_alloc | apply Kd.R_drewN | apply Kd.R_drew)); exact (Kd.R_mono (Kd.R_far (p := ⟨gb668, 4, none⟩) (Kd.R_far (p := ⟨gb668, 3, none⟩) (Kd.R_far (p := ⟨gb668, 2, none⟩) (Kd.R_far (p := ⟨gb668, 1, none⟩) (Kd.R_far (p := ⟨gb668, 0, none⟩) (Kd.R_types HO666.out BK668.out (by decide)) (fun _ hk => hk.2) (.int .i64 t660)) (fun _ hk => hk.2) (.int .i64 t661)) (fun _ hk => hk.2) (.int .i64 t662)) (fun _ hk => hk.2) (.int .i64 t663)) (fun _ hk => hk.2) (.slice Ao36 t664.length co36)) (fun _ h_ => h_.1))) hb); have n4_ := Aside0.mk (blk_below (g := gb634) (o := .cells #[.int .i64 a0_0, .int .i64 a0_1, .int .i64 a0_2, .int .i64 a0_3, .slice A0_4 l0_4.length c0_4] 26 (0, 0)) (by (with_reducible repeat (first | refine blk_drewN ?_ _ | refine blk_drew ?_ | refine blk_alloc ?_ _)); refine blk_far ?_ NB634_668.out _; (with_reducible repeat (first | refine blk_drewN ?_ _ | refine blk_drew ?_ | refine blk_alloc ?_ _)); refine blk_far ?_ NB634_668.out _; (with_reducible repeat (first | refine blk_drewN ?_ _ | refine blk_drew ?_ | refine blk_alloc ?_ _)); refine blk_far ?_ NB634_668.out _; (with_reducible repeat (first | refine blk_drewN ?_ _ | refine blk_drew ?_ | refine blk_alloc ?_ _)); refine blk_far ?_ NB634_668.out _; (with_reducible repeat (first | refine blk_drewN ?_ _ | refine blk_drew ?_ | refine blk_alloc ?_ _)); refine blk_far ?_ NB634_668.out _; (with_reducible repeat (first | refine blk_drewN ?_ _ | refine blk_drew ?_ | refine blk_alloc ?_ _)); exact BK634.out) hb); have n5_ := Aside0.mk (blk_below (g := gb651) (o := .cells #[.int .i64 t643, .int .i64 t644, .int .i64 t645, .int .i64 t646, .slice Ao22 t647.length co22] 31 (0, 0)) (by (with_reducible repeat (first | refine blk_drewN ?_ _ | refine blk_drew ?_ | refine blk_alloc ?_ _)); refine blk_far ?_ NB651_668.out _; (with_reducible repeat (first | refine blk_drewN ?_ _ | refine blk_drew ?_ | refine blk_alloc ?_ _)); refine blk_far ?_ NB651_668.out _; (with_reducible repeat (first | refine blk_drewN ?_ _ | refine blk_drew ?_ | refine blk_alloc ?_ _)); refine blk_far ?_ NB651_668.out _; (with_reducible repeat (first | refine blk_drewN ?_ _ | refine blk_drew ?_ | refine blk_alloc ?_ _)); refine blk_far ?_ NB651_668.out _; (with_reducible repeat (first | refine blk_drewN ?_ _ | refine blk_drew ?_ | refine blk_alloc ?_ _)); refine blk_far ?_ NB651_668.out _; (with_reducible repeat (first | refine blk_drewN ?_ _ | refine blk_drew ?_ | refine blk_alloc ?_ _)); exact BK651.out) hb); have n6_ := Aside0.mk (blk_below (g := gb659) (o := .cells #[.int .i64 t652, .int .i64 t653, .int .i64 t654, .int .i64 t655, .slice Ao29 t656.length co29] 31 (0, 0)) (by (with_reducible repeat (first | refine blk_drewN ?_ _ | refine blk_drew ?_ | refine blk_alloc ?_ _)); refine blk_far ?_ NB659_668.out _; (with_reducible repeat (first | refine blk_drewN ?_ _ | refine blk_drew ?_ | refine blk_alloc ?_ _)); refine blk_far ?_ NB659_668.out _; (with_reducible repeat (first | refine blk_drewN ?_ _ | refine blk_drew ?_ | refine blk_alloc ?_ _)); refine blk_far ?_ NB659_668.out _; (with_reducible repeat (first | refine blk_drewN ?_ _ | refine blk_drew ?_ | refine blk_alloc ?_ _)); refine blk_far ?_ NB659_668.out _; (with_reducible repeat (first | refine blk_drewN ?_ _ | refine blk_drew ?_ | refine blk_alloc ?_ _)); refine blk_far ?_ NB659_668.out _; (with_reducible repeat (first | refine blk_drewN ?_ _ | refine blk_drew ?_ | refine blk_alloc ?_ _)); exact BK659.out) hb); have n7_ := Aside0.mk (blk_below (g := gb668) (o := .cells #[.int .i64 t660, .int .i64 t661, .int .i64 t662, .int .i64 t663, .slice Ao36 t664.length co36] 31 (0, 0)) (by (with_reducible repeat (first | refine blk_drewN ?_ _ | refine blk_drew ?_ | refine blk_alloc ?_ _)); refine blk_put (cs := #[.int .i64 t660, .int .i64 t661, .int .i64 t662, .int .i64 t663, .slice none 0 0]) ?_ 4 _ rfl; (with_reducible repeat (first | refine blk_drewN ?_ _ | refine blk_drew ?_ | refine blk_alloc ?_ _)); refine blk_put (cs := #[.int .i64 t660, .int .i64 t661, .int .i64 t662, .int .i64 0, .slice none 0 0]) ?_ 3 _ rfl; (with_reducible repeat (first | refine blk_drewN ?_ _ | refine blk_drew ?_ | refine blk_alloc ?_ _)); refine blk_put (cs := #[.int .i64 t660, .int .i64 t661, .int .i64 0, .int .i64 0, .slice none 0 0]) ?_ 2 _ rfl; (with_reducible repeat (first | refine blk_drewN ?_ _ | refine blk_drew ?_ | refine blk_alloc ?_ _)); refine blk_put (cs := #[.int .i64 t660, .int .i64 0, .int .i64 0, .int .i64 0, .slice none 0 0]) ?_ 1 _ rfl; (with_reducible repeat (first | refine blk_drewN ?_ _ | refine blk_drew ?_ | refine blk_alloc ?_ _)); refine blk_put (cs := #[.int .i64 0, .int .i64 0, .int .i64 0, .int .i64 0, .slice none 0 0]) ?_ 0 _ rfl; (with_reducible repeat (first | refine blk_drewN ?_ _ | refine blk_drew ?_ | refine blk_alloc ?_ _)); exact BK668.out) hb); have n8_ := Aside0.mk (below_step (by repeat (first | (with_reducible first | exact HB.out | apply below_alloc | apply pw_below_drewN | apply below_drew1 | refine below_set ?_ GE634.out | refine below_set ?_ GE651.out | refine below_set ?_ GE659.out | refine below_set ?_ GE668.out) | exact HB.out)) hb); clear HO642; clear HO649; clear HO658; clear HO666; clear BK634; clear BK651; clear BK659; clear BK668; clear HB; have HO642 := n0_; have HO649 := n1_; have HO658 := n2_; have HO666 := n3_; have BK634 := n4_; have BK651 := n5_; have BK659 := n6_; have BK668 := n7_; have HB := n8_; clear n0_ n1_ n2_ n3_ n4_ n5_ n6_ n7_ n8_; (try clear hb); (try clear hb2); (try clear hk); (try clear hi)))
        go_meet
        case rel => exact ⟨_, (true), (by first | rfl | (simp; done) | (simp [*]; done)), H', ⟨by first | omega | exact Nat.le_refl _⟩, ⟨by (with_reducible repeat (first | apply Kd.R_alloc | apply Kd.R_drewN | apply Kd.R_drew)); exact Kd.R_mono HO649.out (fun _ hk => ⟨hk.1.2, hk.2⟩)⟩, ⟨by (with_reducible repeat (first | apply Kd.R_alloc | apply Kd.R_drewN | apply Kd.R_drew)); exact Kd.R_mono HO658.out (fun _ hk => ⟨hk.1.2, hk.2⟩)⟩, ⟨by (with_reducible repeat (first | apply Kd.R_alloc | apply Kd.R_drewN | apply Kd.R_drew)); exact Kd.R_mono HO666.out (fun _ hk => ⟨hk.1.2, hk.2⟩)⟩, ⟨by (with_reducible repeat (first | refine blk_drewN ?_ _ | refine blk_drew ?_ | refine blk_alloc ?_ _)); exact BK634.out⟩, ⟨by (with_reducible repeat (first | refine blk_drewN ?_ _ | refine blk_drew ?_ | refine blk_alloc ?_ _)); exact BK651.out⟩, ⟨by (with_reducible repeat (first | refine blk_drewN ?_ _ | refine blk_drew ?_ | refine blk_alloc ?_ _)); exact BK659.out⟩, ⟨by (with_reducible repeat (first | refine blk_drewN ?_ _ | refine blk_drew ?_ | refine blk_alloc ?_ _)); exact BK668.out⟩, ⟨by repeat (first | (with_reducible first | exact HB.out | apply below_alloc | apply pw_below_drewN | apply below_drew1 | refine below_set ?_ GE634.out | refine below_set ?_ GE651.out | refine below_set ?_ GE659.out | refine below_set ?_ GE668.out) | exact HB.out)⟩⟩
    case rest =>
      clear HC11
      try clear c1
      try clear c2
      try clear p2
      try clear c3
      try clear c3b0
      try clear c4
      try clear c5
      try clear c8
      try clear c10
      try clear c12
      try clear c14
      try clear c20
      try clear c26
      try clear c27
      try clear c32
      try clear c33
      try clear c34
      try clear c38
      try clear c39
      try clear c40
      try clear c41
      try clear c43
      try clear c44
      try clear c47
      try clear c48
      try clear c49
      try clear c51
      try clear c52
      try clear hcz13_0
      try clear hcz13_1
      try clear hcz13_2
      try clear hcz13_3
      try clear hcz13_4
      try clear hcz15_0
      try clear hcz15_1
      try clear hcz15_2
      try clear hcz15_3
      try clear hcz15_4
      try clear hcz21_0
      try clear hcz21_1
      try clear hcz21_2
      try clear hcz21_3
      try clear hcz21_4
      try clear hcz23_0
      try clear hcz23_1
      try clear hcz23_2
      try clear hcz23_3
      try clear hcz23_4
      try clear hcz28_0
      try clear hcz28_1
      try clear hcz28_2
      try clear hcz28_3
      try clear hcz28_4
      try clear hcz35_0
      try clear hcz35_1
      try clear hcz35_2
      try clear hcz35_3
      try clear hcz35_4
      try clear hcz42_0
      try clear hcz42_1
      try clear hcz42_2
      try clear hcz42_3
      try clear hcz42_4
      try clear hcz45_0
      try clear hcz45_1
      try clear hcz45_2
      try clear hcz45_3
      try clear hcz45_4
      try clear hcz50_0
      try clear hcz50_1
      try clear hcz50_2
      try clear hcz50_3
      try clear hcz50_4
      try clear hcz53_0
      try clear hcz53_1
      try clear hcz53_2
      try clear hcz53_3
      try clear hcz53_4
      try clear hcz5_0
      try clear hcz5_1
      try clear hcz5_2
      try clear hcz5_3
      try clear hcz5_4
      try clear hfz13_0
      try clear hfz13_1
      try clear hfz13_2
      try clear hfz13_3
      try clear hfz13_4
      try clear hfz15_0
      try clear hfz15_1
      try clear hfz15_2
      try clear hfz15_3
      try clear hfz15_4
      try clear hfz21_0
      try clear hfz21_1
      try clear hfz21_2
      try clear hfz21_3
      try clear hfz21_4
      try clear hfz23_0
      try clear hfz23_1
      try clear hfz23_2
      try clear hfz23_3
      try clear hfz23_4
      try clear hfz28_0
      try clear hfz28_1
      try clear hfz28_2
      try clear hfz28_3
      try clear hfz28_4
      try clear hfz35_0
      try clear hfz35_1
      try clear hfz35_2
      try clear hfz35_3
      try clear hfz35_4
      try clear hfz42_0
      try clear hfz42_1
      try clear hfz42_2
      try clear hfz42_3
      try clear hfz42_4
      try clear hfz45_0
      try clear hfz45_1
      try clear hfz45_2
      try clear hfz45_3
      try clear hfz45_4
      try clear hfz50_0
      try clear hfz50_1
      try clear hfz50_2
      try clear hfz50_3
      try clear hfz50_4
      try clear hfz53_0
      try clear hfz53_1
      try clear hfz53_2
      try clear hfz53_3
      try clear hfz53_4
      try clear hfz5_0
      try clear hfz5_1
      try clear hfz5_2
      try clear hfz5_3
      try clear hfz5_4
      obtain ⟨kq, x40_10, rfl, HA, HJ10, HO_652004, HO_660004, HO_669004, BK634, BK651, BK659, BK668, HB⟩ := hcut
      cases kq with
      | zero => exact absurd HA.out (by simp [laws_FnExactFirstCome.j0])
      | succ kj10 =>
        have H := HA.out
        clear HA
        simp only [laws_FnExactFirstCome.j0] at H
        by_cases c55 : x40_10 = true
        · subst c55
          have H1 : (some false) = some true := by rw [if_pos rfl] at H; first | done | exact H
          clear H
          have H := H1
          clear H1
          exact absurd H (by simp)
        · replace c55 := Bool.eq_false_iff.mpr c55
          subst c55
          have H1 : ((laws_toPattern.f kj10 a0_0 a0_1 a0_2 a0_3 l0_4).bind fun bt670 => ((laws_eqPattern.f kj10 t652 t653 t654 t655 t656 bt670.1 bt670.2.1 bt670.2.2.1 bt670.2.2.2.1 bt670.2.2.2.2).bind fun t677 => (if t677 = true then ((laws_markPattern.f kj10 t652 t653 t654 t655 t656 1).bind fun bt678 => (if bt678.1 < 0 then (laws_FnExactFirstCome.j1 kj10 t650 true a0_0 a0_1 a0_2 a0_3 l0_4 t643 t644 t645 t646 t647 t660 t661 t662 t663 t664) else ((laws_eqPattern.f kj10 t660 t661 t662 t663 t664 t643 t644 t645 t646 t647).bind fun t680 => (if t680 = true then (laws_FnExactFirstCome.j1 kj10 t650 (t667 != t650) a0_0 a0_1 a0_2 a0_3 l0_4 t643 t644 t645 t646 t647 t660 t661 t662 t663 t664) else (laws_FnExactFirstCome.j1 kj10 t650 true a0_0 a0_1 a0_2 a0_3 l0_4 t643 t644 t645 t646 t647 t660 t661 t662 t663 t664))))) else (some false)))) = some true := by rw [if_neg (show ¬ (false = true) by decide)] at H; first | done | exact H
          clear H
          have H := H1
          clear H1
          replace H := Option.bind_eq_some_iff.mp H
          obtain ⟨⟨t670, t671, t672, t673, t674⟩, A560, H⟩ := H
          replace H : ((laws_eqPattern.f kj10 t652 t653 t654 t655 t656 t670 t671 t672 t673 t674).bind fun t677 => (if t677 = true then ((laws_markPattern.f kj10 t652 t653 t654 t655 t656 1).bind fun bt678 => (if bt678.1 < 0 then (laws_FnExactFirstCome.j1 kj10 t650 true a0_0 a0_1 a0_2 a0_3 l0_4 t643 t644 t645 t646 t647 t660 t661 t662 t663 t664) else ((laws_eqPattern.f kj10 t660 t661 t662 t663 t664 t643 t644 t645 t646 t647).bind fun t680 => (if t680 = true then (laws_FnExactFirstCome.j1 kj10 t650 (t667 != t650) a0_0 a0_1 a0_2 a0_3 l0_4 t643 t644 t645 t646 t647 t660 t661 t662 t663 t664) else (laws_FnExactFirstCome.j1 kj10 t650 true a0_0 a0_1 a0_2 a0_3 l0_4 t643 t644 t645 t646 t647 t660 t661 t662 t663 t664))))) else (some false))) = some true := H
          have A56 := Aside0.mk A560
          clear A560
          replace H := Option.bind_eq_some_iff.mp H
          obtain ⟨t677, A570, H⟩ := H
          replace H : (if t677 = true then ((laws_markPattern.f kj10 t652 t653 t654 t655 t656 1).bind fun bt678 => (if bt678.1 < 0 then (laws_FnExactFirstCome.j1 kj10 t650 true a0_0 a0_1 a0_2 a0_3 l0_4 t643 t644 t645 t646 t647 t660 t661 t662 t663 t664) else ((laws_eqPattern.f kj10 t660 t661 t662 t663 t664 t643 t644 t645 t646 t647).bind fun t680 => (if t680 = true then (laws_FnExactFirstCome.j1 kj10 t650 (t667 != t650) a0_0 a0_1 a0_2 a0_3 l0_4 t643 t644 t645 t646 t647 t660 t661 t662 t663 t664) else (laws_FnExactFirstCome.j1 kj10 t650 true a0_0 a0_1 a0_2 a0_3 l0_4 t643 t644 t645 t646 t647 t660 t661 t662 t663 t664))))) else (some false)) = some true := H
          have A57 := Aside0.mk A570
          clear A570
          by_cases c58 : t677 = true
          · subst c58
            have H1 : ((laws_markPattern.f kj10 t652 t653 t654 t655 t656 1).bind fun bt678 => (if bt678.1 < 0 then (laws_FnExactFirstCome.j1 kj10 t650 true a0_0 a0_1 a0_2 a0_3 l0_4 t643 t644 t645 t646 t647 t660 t661 t662 t663 t664) else ((laws_eqPattern.f kj10 t660 t661 t662 t663 t664 t643 t644 t645 t646 t647).bind fun t680 => (if t680 = true then (laws_FnExactFirstCome.j1 kj10 t650 (t667 != t650) a0_0 a0_1 a0_2 a0_3 l0_4 t643 t644 t645 t646 t647 t660 t661 t662 t663 t664) else (laws_FnExactFirstCome.j1 kj10 t650 true a0_0 a0_1 a0_2 a0_3 l0_4 t643 t644 t645 t646 t647 t660 t661 t662 t663 t664))))) = some true := by rw [if_pos rfl] at H; first | done | exact H
            clear H
            have H := H1
            clear H1
            replace H := Option.bind_eq_some_iff.mp H
            obtain ⟨⟨t678, t679⟩, A590, H⟩ := H
            replace H : (if t678 < 0 then (laws_FnExactFirstCome.j1 kj10 t650 true a0_0 a0_1 a0_2 a0_3 l0_4 t643 t644 t645 t646 t647 t660 t661 t662 t663 t664) else ((laws_eqPattern.f kj10 t660 t661 t662 t663 t664 t643 t644 t645 t646 t647).bind fun t680 => (if t680 = true then (laws_FnExactFirstCome.j1 kj10 t650 (t667 != t650) a0_0 a0_1 a0_2 a0_3 l0_4 t643 t644 t645 t646 t647 t660 t661 t662 t663 t664) else (laws_FnExactFirstCome.j1 kj10 t650 true a0_0 a0_1 a0_2 a0_3 l0_4 t643 t644 t645 t646 t647 t660 t661 t662 t663 t664)))) = some true := H
            have A59 := Aside0.mk A590
            clear A590
            have HC60 := Aside0.mk H
            clear H
            try go_wp2
            have n0_ := Aside0.mk (Kd.R_drew HO_652004.out)
            have n1_ := Aside0.mk (Kd.R_drew HO_660004.out)
            have n2_ := Aside0.mk (Kd.R_drew HO_669004.out)
            have n3_ := Aside0.mk (blk_drew BK634.out)
            have n4_ := Aside0.mk (blk_drew BK651.out)
            have n5_ := Aside0.mk (blk_drew BK659.out)
            have n6_ := Aside0.mk (blk_drew BK668.out)
            have n7_ := Aside0.mk (below_drew1 HB.out)
            clear HO_652004
            clear HO_660004
            clear HO_669004
            clear BK634
            clear BK651
            clear BK659
            clear BK668
            clear HB
            have HO_652004 := n0_
            have HO_660004 := n1_
            have HO_669004 := n2_
            have BK634 := n3_
            have BK651 := n4_
            have BK659 := n5_
            have BK668 := n6_
            have HB := n7_
            clear n0_ n1_ n2_ n3_ n4_ n5_ n6_ n7_
            refine start_ (n := 5) (S := fun w' => w'.cell? ⟨gb659, 0, none⟩ = some (.int .i64 t652) ∧ w'.cell? ⟨gb659, 1, none⟩ = some (.int .i64 t653) ∧ w'.cell? ⟨gb659, 2, none⟩ = some (.int .i64 t654) ∧ w'.cell? ⟨gb659, 3, none⟩ = some (.int .i64 t655) ∧ w'.cell? ⟨gb659, 4, none⟩ = some (.slice Ao29 t656.length co29) ∧ w'.cell? ⟨gb634, 0, none⟩ = some (.int .i64 a0_0) ∧ w'.cell? ⟨gb634, 1, none⟩ = some (.int .i64 a0_1) ∧ w'.cell? ⟨gb634, 2, none⟩ = some (.int .i64 a0_2) ∧ w'.cell? ⟨gb634, 3, none⟩ = some (.int .i64 a0_3) ∧ w'.cell? ⟨gb634, 4, none⟩ = some (.slice A0_4 l0_4.length c0_4)) (ds := []) #[false, false, false, false, false] (by kernel_rfl) rfl rfl ⟨(blk_cell BK659.out 0).trans rfl, (blk_cell BK659.out 1).trans rfl, (blk_cell BK659.out 2).trans rfl, (blk_cell BK659.out 3).trans rfl, (blk_cell BK659.out 4).trans rfl, (blk_cell BK634.out 0).trans rfl, (blk_cell BK634.out 1).trans rfl, (blk_cell BK634.out 2).trans rfl, (blk_cell BK634.out 3).trans rfl, (blk_cell BK634.out 4).trans rfl⟩ (fun hHeld => ?_)
            generalize wc.drew = w61 at HO_652004 HO_660004 HO_669004 BK634 BK651 BK659 BK668 HB hHeld ⊢
            refine take_ (i := 0) (N := some 41) (v := ?_) (a' := ?_) #[true, false, false, false, false] rfl rfl (by kernel_rfl) (fun _ _ _ h => h) (Or.inl ⟨by rfl, ?_⟩) hHeld ?_ ?_
            rotate_left
            · rintro w' ⟨s0, s1, s2, s3, s4, s5, s6, s7, s8, s9⟩
              go_simp
              with_reducible rfl
            rotate_left
            · simp only [Act.put, List.setIfInBounds_toArray, List.set_cons_zero, List.set_cons_succ, i64_w, i32_w]
              rfl
            refine take_ (i := 1) (N := some 42) (v := ?_) (a' := ?_) #[true, true, false, false, false] rfl rfl (by kernel_rfl) (fun _ _ _ h => h) (Or.inl ⟨by rfl, ?_⟩) hHeld ?_ ?_
            rotate_left
            · rintro w' ⟨s0, s1, s2, s3, s4, s5, s6, s7, s8, s9⟩
              go_simp
              with_reducible rfl
            rotate_left
            · simp only [Act.put, List.setIfInBounds_toArray, List.set_cons_zero, List.set_cons_succ, i64_w, i32_w]
              rfl
            refine one_ (i := 2) (N := some 43) #[true, true, true, false, false] rfl rfl (by kernel_rfl) (by decide) (fun K hK => ?_)
            refine goes_ Try.func12 (by kernel_rfl) rfl #[.agg #[.int .i64 a0_0, .int .i64 a0_1, .int .i64 a0_2, .int .i64 a0_3, .slice A0_4 l0_4.length c0_4]] (by rfl) rfl rfl (by (try simp only [List.map_toArray, List.map_cons, List.map_nil]); first | done | rfl | (simp only [List.length_drop, List.length_take]; rfl)) ?_
            with_reducible refine (laws_toPattern.calls kj10 a0_0 a0_1 a0_2 a0_3 _ _ l0_4 t670 t671 t672 t673 t674 _ ?side1 ?side2 A56.out).mono ?_
            (case side1 => repeat (first | exact (Kd.C_below HR0_4.out HB.out) | (with_reducible refine Kd.C_alloc ?_ _) | (with_reducible refine Kd.C_drewN ?_ _) | (with_reducible refine Kd.C_drew ?_)))
            (case side2 => exact HC0_4.out)
            rintro e w62 ⟨v675, rfl, ho0, hb⟩
            refine ⟨_, rfl, ?_⟩
            have n0_ := Aside0.mk (Kd.R_elder' (by (with_reducible repeat (first | apply Kd.R_alloc | apply Kd.R_drewN | apply Kd.R_drew)); exact HO_652004.out) (Kd.R_base ho0) hb)
            have n1_ := Aside0.mk (Kd.R_elder' (by (with_reducible repeat (first | apply Kd.R_alloc | apply Kd.R_drewN | apply Kd.R_drew)); exact HO_660004.out) (Kd.R_base ho0) hb)
            have n2_ := Aside0.mk (Kd.R_elder' (by (with_reducible repeat (first | apply Kd.R_alloc | apply Kd.R_drewN | apply Kd.R_drew)); exact HO_669004.out) (Kd.R_base ho0) hb)
            have n3_ := Aside0.mk (Kd.R_lower (Kd.R_new' (Kd.R_new' (Kd.R_new' ho0 (Kd.R_lt (by (with_reducible repeat (first | apply Kd.R_alloc | apply Kd.R_drewN | apply Kd.R_drew)); exact HO_652004.out))) (Kd.R_lt (by (with_reducible repeat (first | apply Kd.R_alloc | apply Kd.R_drewN | apply Kd.R_drew)); exact HO_660004.out))) (Kd.R_lt (by (with_reducible repeat (first | apply Kd.R_alloc | apply Kd.R_drewN | apply Kd.R_drew)); exact HO_669004.out))) (below_size (by repeat (first | (with_reducible first | exact HB.out | apply below_alloc | apply pw_below_drewN | apply below_drew1 | refine below_set ?_ GE634.out | refine below_set ?_ GE651.out | refine below_set ?_ GE659.out | refine below_set ?_ GE668.out) | exact HB.out))))
            have n4_ := Aside0.mk (blk_below (g := gb634) (o := .cells #[.int .i64 a0_0, .int .i64 a0_1, .int .i64 a0_2, .int .i64 a0_3, .slice A0_4 l0_4.length c0_4] 26 (0, 0)) (by (with_reducible repeat (first | refine blk_drewN ?_ _ | refine blk_drew ?_ | refine blk_alloc ?_ _)); exact BK634.out) hb)
            have n5_ := Aside0.mk (blk_below (g := gb651) (o := .cells #[.int .i64 t643, .int .i64 t644, .int .i64 t645, .int .i64 t646, .slice Ao22 t647.length co22] 31 (0, 0)) (by (with_reducible repeat (first | refine blk_drewN ?_ _ | refine blk_drew ?_ | refine blk_alloc ?_ _)); exact BK651.out) hb)
            have n6_ := Aside0.mk (blk_below (g := gb659) (o := .cells #[.int .i64 t652, .int .i64 t653, .int .i64 t654, .int .i64 t655, .slice Ao29 t656.length co29] 31 (0, 0)) (by (with_reducible repeat (first | refine blk_drewN ?_ _ | refine blk_drew ?_ | refine blk_alloc ?_ _)); exact BK659.out) hb)
            have n7_ := Aside0.mk (blk_below (g := gb668) (o := .cells #[.int .i64 t660, .int .i64 t661, .int .i64 t662, .int .i64 t663, .slice Ao36 t664.length co36] 31 (0, 0)) (by (with_reducible repeat (first | refine blk_drewN ?_ _ | refine blk_drew ?_ | refine blk_alloc ?_ _)); exact BK668.out) hb)
            have n8_ := Aside0.mk (below_step (by repeat (first | (with_reducible first | exact HB.out | apply below_alloc | apply pw_below_drewN | apply below_drew1 | refine below_set ?_ GE634.out | refine below_set ?_ GE651.out | refine below_set ?_ GE659.out | refine below_set ?_ GE668.out) | exact HB.out)) hb)
            clear HO_652004
            clear HO_660004
            clear HO_669004
            clear BK634
            clear BK651
            clear BK659
            clear BK668
            clear HB
            have HO_652004 := n0_
            have HO_660004 := n1_
            have HO_669004 := n2_
            have HO676 := n3_
            have BK634 := n4_
            have BK651 := n5_
            have BK659 := n6_
            have BK668 := n7_
            have HB := n8_
            clear n0_ n1_ n2_ n3_ n4_ n5_ n6_ n7_ n8_
            (try clear hb)
            (try clear hb2)
            (try clear hk)
            (try clear hi)
            (try clear ho0)
            obtain ⟨Ao63, co63, eo63⟩ := Kd.R_slice HO676.out
            (first | subst eo63 | (injection eo63 with f1_ f2_ f3_; have f4_ := f1_.symm; have f5_ := f3_.symm; clear f1_ f2_ f3_; subst f4_; subst f5_))
            refine hK.out _ _ ⟨(blk_cell BK659.out 0).trans rfl, (blk_cell BK659.out 1).trans rfl, (blk_cell BK659.out 2).trans rfl, (blk_cell BK659.out 3).trans rfl, (blk_cell BK659.out 4).trans rfl, (blk_cell BK634.out 0).trans rfl, (blk_cell BK634.out 1).trans rfl, (blk_cell BK634.out 2).trans rfl, (blk_cell BK634.out 3).trans rfl, (blk_cell BK634.out 4).trans rfl⟩ (fun hHeld => ?_)
            clear hK K
            refine norm_ (a' := ?_) ?_ ?_
            rotate_left
            · show Act.put _ (some 43) _ = _
              simp only [Act.put, List.setIfInBounds_toArray, List.set_cons_zero, List.set_cons_succ, i64_w, i32_w]
              rfl
            refine one_ (i := 3) (N := some 44) #[true, true, true, true, false] rfl rfl (by kernel_rfl) (by decide) (fun K hK => ?_)
            refine goes_ Try.func14 (by kernel_rfl) rfl #[.agg #[.int .i64 t652, .int .i64 t653, .int .i64 t654, .int .i64 t655, .slice Ao29 t656.length co29], .agg #[.int .i64 t670, .int .i64 t671, .int .i64 t672, .int .i64 t673, .slice Ao63 t674.length co63]] (by rfl) rfl rfl (by (try simp only [List.map_toArray, List.map_cons, List.map_nil]); first | done | rfl | (simp only [List.length_drop, List.length_take]; rfl)) ?_
            with_reducible refine (laws_eqPattern.calls kj10 t652 t653 t654 t655 _ _ t656 t670 t671 t672 t673 _ _ t674 true _ ?side1 ?side2 ?side3 ?side4 A57.out).mono ?_
            (case side1 => repeat (first | exact (Kd.R_reads' HO_660004.out).2.2 | (with_reducible refine Kd.C_alloc ?_ _) | (with_reducible refine Kd.C_drewN ?_ _) | (with_reducible refine Kd.C_drew ?_)))
            (case side2 => exact (Kd.R_reads' HO_660004.out).2.1)
            (case side3 => repeat (first | exact (Kd.R_reads' HO676.out).2.2 | (with_reducible refine Kd.C_alloc ?_ _) | (with_reducible refine Kd.C_drewN ?_ _) | (with_reducible refine Kd.C_drew ?_)))
            (case side4 => exact (Kd.R_reads' HO676.out).2.1)
            rintro e w64 ⟨rfl, hb⟩
            refine ⟨_, rfl, ?_⟩
            have n0_ := Aside0.mk (Kd.R_below (by (with_reducible repeat (first | apply Kd.R_alloc | apply Kd.R_drewN | apply Kd.R_drew)); exact HO_652004.out) hb)
            have n1_ := Aside0.mk (Kd.R_below (by (with_reducible repeat (first | apply Kd.R_alloc | apply Kd.R_drewN | apply Kd.R_drew)); exact HO_660004.out) hb)
            have n2_ := Aside0.mk (Kd.R_below (by (with_reducible repeat (first | apply Kd.R_alloc | apply Kd.R_drewN | apply Kd.R_drew)); exact HO_669004.out) hb)
            have n3_ := Aside0.mk (Kd.R_below (by (with_reducible repeat (first | apply Kd.R_alloc | apply Kd.R_drewN | apply Kd.R_drew)); exact HO676.out) hb)
            have n4_ := Aside0.mk (blk_below (g := gb634) (o := .cells #[.int .i64 a0_0, .int .i64 a0_1, .int .i64 a0_2, .int .i64 a0_3, .slice A0_4 l0_4.length c0_4] 26 (0, 0)) (by (with_reducible repeat (first | refine blk_drewN ?_ _ | refine blk_drew ?_ | refine blk_alloc ?_ _)); exact BK634.out) hb)
            have n5_ := Aside0.mk (blk_below (g := gb651) (o := .cells #[.int .i64 t643, .int .i64 t644, .int .i64 t645, .int .i64 t646, .slice Ao22 t647.length co22] 31 (0, 0)) (by (with_reducible repeat (first | refine blk_drewN ?_ _ | refine blk_drew ?_ | refine blk_alloc ?_ _)); exact BK651.out) hb)
            have n6_ := Aside0.mk (blk_below (g := gb659) (o := .cells #[.int .i64 t652, .int .i64 t653, .int .i64 t654, .int .i64 t655, .slice Ao29 t656.length co29] 31 (0, 0)) (by (with_reducible repeat (first | refine blk_drewN ?_ _ | refine blk_drew ?_ | refine blk_alloc ?_ _)); exact BK659.out) hb)
            have n7_ := Aside0.mk (blk_below (g := gb668) (o := .cells #[.int .i64 t660, .int .i64 t661, .int .i64 t662, .int .i64 t663, .slice Ao36 t664.length co36] 31 (0, 0)) (by (with_reducible repeat (first | refine blk_drewN ?_ _ | refine blk_drew ?_ | refine blk_alloc ?_ _)); exact BK668.out) hb)
            have n8_ := Aside0.mk (below_step (by repeat (first | (with_reducible first | exact HB.out | apply below_alloc | apply pw_below_drewN | apply below_drew1 | refine below_set ?_ GE634.out | refine below_set ?_ GE651.out | refine below_set ?_ GE659.out | refine below_set ?_ GE668.out) | exact HB.out)) hb)
            clear HO_652004
            clear HO_660004
            clear HO_669004
            clear HO676
            clear BK634
            clear BK651
            clear BK659
            clear BK668
            clear HB
            have HO_652004 := n0_
            have HO_660004 := n1_
            have HO_669004 := n2_
            have HO676 := n3_
            have BK634 := n4_
            have BK651 := n5_
            have BK659 := n6_
            have BK668 := n7_
            have HB := n8_
            clear n0_ n1_ n2_ n3_ n4_ n5_ n6_ n7_ n8_
            (try clear hb)
            (try clear hb2)
            (try clear hk)
            (try clear hi)
            refine hK.out _ _ ⟨(blk_cell BK659.out 0).trans rfl, (blk_cell BK659.out 1).trans rfl, (blk_cell BK659.out 2).trans rfl, (blk_cell BK659.out 3).trans rfl, (blk_cell BK659.out 4).trans rfl, (blk_cell BK634.out 0).trans rfl, (blk_cell BK634.out 1).trans rfl, (blk_cell BK634.out 2).trans rfl, (blk_cell BK634.out 3).trans rfl, (blk_cell BK634.out 4).trans rfl⟩ (fun hHeld => ?_)
            clear hK K
            refine norm_ (a' := ?_) ?_ ?_
            rotate_left
            · show Act.put _ (some 44) _ = _
              simp only [Act.put, List.setIfInBounds_toArray, List.set_cons_zero, List.set_cons_succ, i64_w, i32_w]
              rfl
            refine pure_ (i := 4) (N := some 45) (v := ?_) (a' := ?_) #[true, true, true, true, true] rfl rfl (by kernel_rfl) (fun _ _ _ h => h) (Or.inl ⟨by rfl, ?_⟩) ?_ ?_
            rotate_left
            · intro w'
              go_simp
              with_reducible rfl
            rotate_left
            · simp only [Act.put, List.setIfInBounds_toArray, List.set_cons_zero, List.set_cons_succ, i64_w, i32_w]
              rfl
            refine done_ (by kernel_rfl) ?_
            have hnb65 := NB659_634.out
            have hnc65 := NB634_659.out
            have hnb66 := NB659_651.out
            have hnc66 := NB651_659.out
            have hnb67 := NB659_668.out
            have hnc67 := NB668_659.out
            have hcz68_0 : w64.cell? ⟨gb659, 0, none⟩ = some (.int .i64 t652) := (blk_cell BK659.out 0).trans rfl
            have hcz68_1 : w64.cell? ⟨gb659, 1, none⟩ = some (.int .i64 t653) := (blk_cell BK659.out 1).trans rfl
            have hcz68_2 : w64.cell? ⟨gb659, 2, none⟩ = some (.int .i64 t654) := (blk_cell BK659.out 2).trans rfl
            have hcz68_3 : w64.cell? ⟨gb659, 3, none⟩ = some (.int .i64 t655) := (blk_cell BK659.out 3).trans rfl
            have hcz68_4 : w64.cell? ⟨gb659, 4, none⟩ = some (.slice Ao29 t656.length co29) := (blk_cell BK659.out 4).trans rfl
            have hfz68_0 := blk_frozen BK659.out 0
            have hfz68_1 := blk_frozen BK659.out 1
            have hfz68_2 := blk_frozen BK659.out 2
            have hfz68_3 := blk_frozen BK659.out 3
            have hfz68_4 := blk_frozen BK659.out 4
            go_upto_region 14 with (first | ((with_reducible refine gate_callee (f := 18) rfl ?_); refine goesL_ (some 48) rfl rfl Try.func18 (by kernel_rfl) rfl #[.agg #[.int .i64 t652, .int .i64 t653, .int .i64 t654, .int .i64 t655, .slice Ao29 t656.length co29], .int .i64 1] rfl (by (try simp only [List.map_toArray, List.map_cons, List.map_nil]); first | done | rfl | (simp only [List.length_drop, List.length_take]; rfl)) ?_; (with_reducible refine (laws_markPattern.calls kj10 t652 t653 t654 t655 (fun k_ => some k_ = (.slice Ao29 t656.length co29 : Value).ownBlock) (.slice Ao29 t656.length co29) t656 1 t678 t679 w _ ?side1 ?side2 A59.out).mono ?_); (case side1 => repeat (first | (with_reducible first | exact HB.out | apply below_alloc | apply pw_below_drewN | apply below_drew1 | refine below_set ?_ GE634.out | refine below_set ?_ GE651.out | refine below_set ?_ GE659.out | refine below_set ?_ GE668.out) | exact HB.out)); (case side2 => exact Kd.R_tight rfl HO_660004.out); rintro e w69 ⟨rfl, hy0, hb, hkp⟩; refine ⟨_, rfl, ?_⟩; have n0_ := Aside0.mk (Kd.R_mono (ok' := fun k_ => some k_ ≠ (.slice Ao29 t656.length co29 : Value).ownBlock ∧ some k_ ≠ (.slice Ao36 t664.length co36 : Value).ownBlock ∧ some k_ ≠ (.slice Ao63 t674.length co63 : Value).ownBlock) (Kd.R_keptB (HO_652004.out) hkp (fun k_ hk_ hs_ => (hk_.1.1) hs_)) (fun k_ hk_ => ⟨hk_.1.1.1, hk_.1.1.2, hk_.1.2⟩)); have n1_ := Aside0.mk (Kd.R_reok rfl hy0 (fun k_ e_ => HO_660004.out.1 k_ e_)); have n2_ := Aside0.mk (Kd.R_mono (ok' := fun k_ => some k_ ≠ (.slice Ao22 t647.length co22 : Value).ownBlock ∧ some k_ ≠ (.slice Ao29 t656.length co29 : Value).ownBlock ∧ some k_ ≠ (.slice Ao63 t674.length co63 : Value).ownBlock) (Kd.R_keptB (HO_669004.out) hkp (fun k_ hk_ hs_ => (hk_.1.2) hs_)) (fun k_ hk_ => ⟨hk_.1.1.1, hk_.1.1.2, hk_.1.2⟩)); have n3_ := Aside0.mk (blk_kept (by (with_reducible repeat (first | refine blk_drewN ?_ _ | refine blk_drew ?_ | refine blk_alloc ?_ _)); exact BK634.out) hkp (fun hs_ => (fun e_ => (Kd.R_ne HO_660004.out BK634.out (by decide)) e_) hs_)); have n4_ := Aside0.mk (blk_kept (by (with_reducible repeat (first | refine blk_drewN ?_ _ | refine blk_drew ?_ | refine blk_alloc ?_ _)); exact BK651.out) hkp (fun hs_ => (fun e_ => (Kd.R_ne HO_660004.out BK651.out (by decide)) e_) hs_)); have n5_ := Aside0.mk (blk_kept (by (with_reducible repeat (first | refine blk_drewN ?_ _ | refine blk_drew ?_ | refine blk_alloc ?_ _)); exact BK659.out) hkp (fun hs_ => (fun e_ => (Kd.R_ne HO_660004.out BK659.out (by decide)) e_) hs_)); have n6_ := Aside0.mk (blk_kept (by (with_reducible repeat (first | refine blk_drewN ?_ _ | refine blk_drew ?_ | refine blk_alloc ?_ _)); exact BK668.out) hkp (fun hs_ => (fun e_ => (Kd.R_ne HO_660004.out BK668.out (by decide)) e_) hs_)); have n7_ := Aside0.mk (Kd.R_mono (ok' := fun k_ => some k_ ≠ (.slice Ao22 t647.length co22 : Value).ownBlock ∧ some k_ ≠ (.slice Ao29 t656.length co29 : Value).ownBlock ∧ some k_ ≠ (.slice Ao36 t664.length co36 : Value).ownBlock) (Kd.R_keptB (HO676.out) hkp (fun k_ hk_ hs_ => (hk_.1.2) hs_)) (fun k_ hk_ => ⟨hk_.1.1.1.2, hk_.1.1.2, hk_.1.2⟩)); have n8_ := Aside0.mk (hb); clear HO_652004; clear HO_660004; clear HO_669004; clear BK634; clear BK651; clear BK659; clear BK668; clear HO676; clear HB; have HO_652004 := n0_; have HO_660004 := n1_; have HO_669004 := n2_; have BK634 := n3_; have BK651 := n4_; have BK659 := n5_; have BK668 := n6_; have HO676 := n7_; have HB := n8_; clear n0_ n1_ n2_ n3_ n4_ n5_ n6_ n7_ n8_; (try clear hb); (try clear hkp); (try clear hy0)))
            (try simp only [Act.put, List.setIfInBounds_toArray, List.set_cons_zero, List.set_cons_succ])
            go_cut [61] (fun v61 wc => ∃ (kq : Nat) (x61_59 : Bool), v61 = .bool x61_59 ∧ Aside0 (laws_FnExactFirstCome.j1 kq t650 x61_59 a0_0 a0_1 a0_2 a0_3 l0_4 t643 t644 t645 t646 t647 t660 t661 t662 t663 t664 = some true) ∧ Aside0 (kq ≤ kj10) ∧ Aside0 (Kd.R (Kd.int .i64) 2 wc w.heap.size (fun k_ => some k_ ≠ ((.slice Ao29 t656.length co29) : Value).ownBlock ∧ some k_ ≠ ((.slice Ao36 t664.length co36) : Value).ownBlock) (.slice Ao22 t647.length co22) t647) ∧ Aside0 (Kd.R (Kd.int .i64) 2 wc w.heap.size (fun k_ => some k_ ≠ ((.slice Ao22 t647.length co22) : Value).ownBlock ∧ some k_ ≠ ((.slice Ao36 t664.length co36) : Value).ownBlock) (.slice Ao29 t656.length co29) t679) ∧ Aside0 (Kd.R (Kd.int .i64) 2 wc w.heap.size (fun k_ => some k_ ≠ ((.slice Ao22 t647.length co22) : Value).ownBlock ∧ some k_ ≠ ((.slice Ao29 t656.length co29) : Value).ownBlock) (.slice Ao36 t664.length co36) t664) ∧ Aside0 (wc.heap[gb634]? = some (.cells #[.int .i64 a0_0, .int .i64 a0_1, .int .i64 a0_2, .int .i64 a0_3, (.slice A0_4 l0_4.length c0_4)] 26 (0, 0))) ∧ Aside0 (wc.heap[gb651]? = some (.cells #[.int .i64 t643, .int .i64 t644, .int .i64 t645, .int .i64 t646, (.slice Ao22 t647.length co22)] 31 (0, 0))) ∧ Aside0 (wc.heap[gb659]? = some (.cells #[.int .i64 t652, .int .i64 t653, .int .i64 t654, .int .i64 t655, (.slice Ao29 t656.length co29)] 31 (0, 0))) ∧ Aside0 (wc.heap[gb668]? = some (.cells #[.int .i64 t660, .int .i64 t661, .int .i64 t662, .int .i64 t663, (.slice Ao36 t664.length co36)] 31 (0, 0))) ∧ Aside0 (Below w.heap.size w wc))
            case first =>
              have H := HC60.out
              clear HC60
              by_cases c70 : t678 < 0
              · rw [if_pos c70] at H
                have c70b0 : decide (t678 < 0) = true := decide_eq_true c70
                clear c70
                (first | rw [c70b0] | (simp only [i64_w, i32_w]; rw [c70b0]) | skip)
                have H' := Aside0.mk H
                clear H
                go_wp2
                go_meet
                case rel => exact ⟨_, (true), (by first | rfl | (simp; done) | (simp [*]; done)), H', ⟨by have := HJ10.out; first | omega | exact Nat.le_refl _⟩, ⟨by (with_reducible repeat (first | apply Kd.R_alloc | apply Kd.R_drewN | apply Kd.R_drew)); exact Kd.R_mono HO_652004.out (fun _ hk => ⟨hk.1, hk.2.1⟩)⟩, ⟨by (with_reducible repeat (first | apply Kd.R_alloc | apply Kd.R_drewN | apply Kd.R_drew)); exact Kd.R_mono HO_660004.out (fun _ hk => ⟨hk.1.1, hk.1.2⟩)⟩, ⟨by (with_reducible repeat (first | apply Kd.R_alloc | apply Kd.R_drewN | apply Kd.R_drew)); exact Kd.R_mono HO_669004.out (fun _ hk => ⟨hk.1, hk.2.1⟩)⟩, ⟨by (with_reducible repeat (first | refine blk_drewN ?_ _ | refine blk_drew ?_ | refine blk_alloc ?_ _)); exact BK634.out⟩, ⟨by (with_reducible repeat (first | refine blk_drewN ?_ _ | refine blk_drew ?_ | refine blk_alloc ?_ _)); exact BK651.out⟩, ⟨by (with_reducible repeat (first | refine blk_drewN ?_ _ | refine blk_drew ?_ | refine blk_alloc ?_ _)); exact BK659.out⟩, ⟨by (with_reducible repeat (first | refine blk_drewN ?_ _ | refine blk_drew ?_ | refine blk_alloc ?_ _)); exact BK668.out⟩, ⟨by repeat (first | (with_reducible first | exact HB.out | apply below_alloc | apply pw_below_drewN | apply below_drew1 | refine below_set ?_ GE634.out | refine below_set ?_ GE651.out | refine below_set ?_ GE659.out | refine below_set ?_ GE668.out) | exact HB.out)⟩⟩
              · rw [if_neg c70] at H
                have c70b0 : decide (t678 < 0) = false := decide_eq_false c70
                clear c70
                (first | rw [c70b0] | (simp only [i64_w, i32_w]; rw [c70b0]) | skip)
                replace H := Option.bind_eq_some_iff.mp H
                obtain ⟨t680, A710, H⟩ := H
                replace H : (if t680 = true then (laws_FnExactFirstCome.j1 kj10 t650 (t667 != t650) a0_0 a0_1 a0_2 a0_3 l0_4 t643 t644 t645 t646 t647 t660 t661 t662 t663 t664) else (laws_FnExactFirstCome.j1 kj10 t650 true a0_0 a0_1 a0_2 a0_3 l0_4 t643 t644 t645 t646 t647 t660 t661 t662 t663 t664)) = some true := H
                have A71 := Aside0.mk A710
                clear A710
                by_cases c72 : t680 = true
                · subst c72
                  have H1 : (laws_FnExactFirstCome.j1 kj10 t650 (t667 != t650) a0_0 a0_1 a0_2 a0_3 l0_4 t643 t644 t645 t646 t647 t660 t661 t662 t663 t664) = some true := by rw [if_pos rfl] at H; first | done | exact H
                  clear H
                  have H := H1
                  clear H1
                  have H' := Aside0.mk H
                  clear H
                  have hnb73 := NB668_634.out
                  have hnc73 := NB634_668.out
                  have hnb74 := NB668_651.out
                  have hnc74 := NB651_668.out
                  have hnb75 := NB668_659.out
                  have hnc75 := NB659_668.out
                  have hcz76_0 : w69.cell? ⟨gb668, 0, none⟩ = some (.int .i64 t660) := (blk_cell BK668.out 0).trans rfl
                  have hcz76_1 : w69.cell? ⟨gb668, 1, none⟩ = some (.int .i64 t661) := (blk_cell BK668.out 1).trans rfl
                  have hcz76_2 : w69.cell? ⟨gb668, 2, none⟩ = some (.int .i64 t662) := (blk_cell BK668.out 2).trans rfl
                  have hcz76_3 : w69.cell? ⟨gb668, 3, none⟩ = some (.int .i64 t663) := (blk_cell BK668.out 3).trans rfl
                  have hcz76_4 : w69.cell? ⟨gb668, 4, none⟩ = some (.slice Ao36 t664.length co36) := (blk_cell BK668.out 4).trans rfl
                  have hfz76_0 := blk_frozen BK668.out 0
                  have hfz76_1 := blk_frozen BK668.out 1
                  have hfz76_2 := blk_frozen BK668.out 2
                  have hfz76_3 := blk_frozen BK668.out 3
                  have hfz76_4 := blk_frozen BK668.out 4
                  have hnb77 := NB651_634.out
                  have hnc77 := NB634_651.out
                  have hnb78 := NB651_659.out
                  have hnc78 := NB659_651.out
                  have hcz79_0 : w69.cell? ⟨gb651, 0, none⟩ = some (.int .i64 t643) := (blk_cell BK651.out 0).trans rfl
                  have hcz79_1 : w69.cell? ⟨gb651, 1, none⟩ = some (.int .i64 t644) := (blk_cell BK651.out 1).trans rfl
                  have hcz79_2 : w69.cell? ⟨gb651, 2, none⟩ = some (.int .i64 t645) := (blk_cell BK651.out 2).trans rfl
                  have hcz79_3 : w69.cell? ⟨gb651, 3, none⟩ = some (.int .i64 t646) := (blk_cell BK651.out 3).trans rfl
                  have hcz79_4 : w69.cell? ⟨gb651, 4, none⟩ = some (.slice Ao22 t647.length co22) := (blk_cell BK651.out 4).trans rfl
                  have hfz79_0 := blk_frozen BK651.out 0
                  have hfz79_1 := blk_frozen BK651.out 1
                  have hfz79_2 := blk_frozen BK651.out 2
                  have hfz79_3 := blk_frozen BK651.out 3
                  have hfz79_4 := blk_frozen BK651.out 4
                  go_wp2_with (first | (go_at_call 14; (with_reducible refine (laws_eqPattern.calls kj10 t660 t661 t662 t663 _ _ t664 t643 t644 t645 t646 _ _ t647 true _ ?side1 ?side2 ?side3 ?side4 A71.out).mono ?_); (case side1 => repeat (first | exact (Kd.R_reads' HO_669004.out).2.2 | (with_reducible refine Kd.C_alloc ?_ _) | (with_reducible refine Kd.C_drewN ?_ _) | (with_reducible refine Kd.C_drew ?_))); (case side2 => exact (Kd.R_reads' HO_669004.out).2.1); (case side3 => repeat (first | exact (Kd.R_reads' HO_652004.out).2.2 | (with_reducible refine Kd.C_alloc ?_ _) | (with_reducible refine Kd.C_drewN ?_ _) | (with_reducible refine Kd.C_drew ?_))); (case side4 => exact (Kd.R_reads' HO_652004.out).2.1); rintro e w80 ⟨rfl, hb⟩; have n0_ := Aside0.mk (Kd.R_below (by (with_reducible repeat (first | apply Kd.R_alloc | apply Kd.R_drewN | apply Kd.R_drew)); exact HO_652004.out) hb); have n1_ := Aside0.mk (Kd.R_below (by (with_reducible repeat (first | apply Kd.R_alloc | apply Kd.R_drewN | apply Kd.R_drew)); exact HO_660004.out) hb); have n2_ := Aside0.mk (Kd.R_below (by (with_reducible repeat (first | apply Kd.R_alloc | apply Kd.R_drewN | apply Kd.R_drew)); exact HO_669004.out) hb); have n3_ := Aside0.mk (Kd.R_below (by (with_reducible repeat (first | apply Kd.R_alloc | apply Kd.R_drewN | apply Kd.R_drew)); exact HO676.out) hb); have n4_ := Aside0.mk (blk_below (g := gb634) (o := .cells #[.int .i64 a0_0, .int .i64 a0_1, .int .i64 a0_2, .int .i64 a0_3, .slice A0_4 l0_4.length c0_4] 26 (0, 0)) (by (with_reducible repeat (first | refine blk_drewN ?_ _ | refine blk_drew ?_ | refine blk_alloc ?_ _)); exact BK634.out) hb); have n5_ := Aside0.mk (blk_below (g := gb651) (o := .cells #[.int .i64 t643, .int .i64 t644, .int .i64 t645, .int .i64 t646, .slice Ao22 t647.length co22] 31 (0, 0)) (by (with_reducible repeat (first | refine blk_drewN ?_ _ | refine blk_drew ?_ | refine blk_alloc ?_ _)); exact BK651.out) hb); have n6_ := Aside0.mk (blk_below (g := gb659) (o := .cells #[.int .i64 t652, .int .i64 t653, .int .i64 t654, .int .i64 t655, .slice Ao29 t656.length co29] 31 (0, 0)) (by (with_reducible repeat (first | refine blk_drewN ?_ _ | refine blk_drew ?_ | refine blk_alloc ?_ _)); exact BK659.out) hb); have n7_ := Aside0.mk (blk_below (g := gb668) (o := .cells #[.int .i64 t660, .int .i64 t661, .int .i64 t662, .int .i64 t663, .slice Ao36 t664.length co36] 31 (0, 0)) (by (with_reducible repeat (first | refine blk_drewN ?_ _ | refine blk_drew ?_ | refine blk_alloc ?_ _)); exact BK668.out) hb); have n8_ := Aside0.mk (below_step (by repeat (first | (with_reducible first | exact HB.out | apply below_alloc | apply pw_below_drewN | apply below_drew1 | refine below_set ?_ GE634.out | refine below_set ?_ GE651.out | refine below_set ?_ GE659.out | refine below_set ?_ GE668.out) | exact HB.out)) hb); clear HO_652004; clear HO_660004; clear HO_669004; clear HO676; clear BK634; clear BK651; clear BK659; clear BK668; clear HB; have HO_652004 := n0_; have HO_660004 := n1_; have HO_669004 := n2_; have HO676 := n3_; have BK634 := n4_; have BK651 := n5_; have BK659 := n6_; have BK668 := n7_; have HB := n8_; clear n0_ n1_ n2_ n3_ n4_ n5_ n6_ n7_ n8_; (try clear hb); (try clear hb2); (try clear hk); (try clear hi)))
                  go_meet
                  case rel => exact ⟨_, ((t667 != t650)), (by first | rfl | (simp; done) | (simp [*]; done)), H', ⟨by have := HJ10.out; first | omega | exact Nat.le_refl _⟩, ⟨by (with_reducible repeat (first | apply Kd.R_alloc | apply Kd.R_drewN | apply Kd.R_drew)); exact Kd.R_mono HO_652004.out (fun _ hk => ⟨hk.1, hk.2.1⟩)⟩, ⟨by (with_reducible repeat (first | apply Kd.R_alloc | apply Kd.R_drewN | apply Kd.R_drew)); exact Kd.R_mono HO_660004.out (fun _ hk => ⟨hk.1.1, hk.1.2⟩)⟩, ⟨by (with_reducible repeat (first | apply Kd.R_alloc | apply Kd.R_drewN | apply Kd.R_drew)); exact Kd.R_mono HO_669004.out (fun _ hk => ⟨hk.1, hk.2.1⟩)⟩, ⟨by (with_reducible repeat (first | refine blk_drewN ?_ _ | refine blk_drew ?_ | refine blk_alloc ?_ _)); exact BK634.out⟩, ⟨by (with_reducible repeat (first | refine blk_drewN ?_ _ | refine blk_drew ?_ | refine blk_alloc ?_ _)); exact BK651.out⟩, ⟨by (with_reducible repeat (first | refine blk_drewN ?_ _ | refine blk_drew ?_ | refine blk_alloc ?_ _)); exact BK659.out⟩, ⟨by (with_reducible repeat (first | refine blk_drewN ?_ _ | refine blk_drew ?_ | refine blk_alloc ?_ _)); exact BK668.out⟩, ⟨by repeat (first | (with_reducible first | exact HB.out | apply below_alloc | apply pw_below_drewN | apply below_drew1 | refine below_set ?_ GE634.out | refine below_set ?_ GE651.out | refine below_set ?_ GE659.out | refine below_set ?_ GE668.out) | exact HB.out)⟩⟩
                · replace c72 := Bool.eq_false_iff.mpr c72
                  subst c72
                  have H1 : (laws_FnExactFirstCome.j1 kj10 t650 true a0_0 a0_1 a0_2 a0_3 l0_4 t643 t644 t645 t646 t647 t660 t661 t662 t663 t664) = some true := by rw [if_neg (show ¬ (false = true) by decide)] at H; first | done | exact H
                  clear H
                  have H := H1
                  clear H1
                  have H' := Aside0.mk H
                  clear H
                  have hnb81 := NB668_634.out
                  have hnc81 := NB634_668.out
                  have hnb82 := NB668_651.out
                  have hnc82 := NB651_668.out
                  have hnb83 := NB668_659.out
                  have hnc83 := NB659_668.out
                  have hcz84_0 : w69.cell? ⟨gb668, 0, none⟩ = some (.int .i64 t660) := (blk_cell BK668.out 0).trans rfl
                  have hcz84_1 : w69.cell? ⟨gb668, 1, none⟩ = some (.int .i64 t661) := (blk_cell BK668.out 1).trans rfl
                  have hcz84_2 : w69.cell? ⟨gb668, 2, none⟩ = some (.int .i64 t662) := (blk_cell BK668.out 2).trans rfl
                  have hcz84_3 : w69.cell? ⟨gb668, 3, none⟩ = some (.int .i64 t663) := (blk_cell BK668.out 3).trans rfl
                  have hcz84_4 : w69.cell? ⟨gb668, 4, none⟩ = some (.slice Ao36 t664.length co36) := (blk_cell BK668.out 4).trans rfl
                  have hfz84_0 := blk_frozen BK668.out 0
                  have hfz84_1 := blk_frozen BK668.out 1
                  have hfz84_2 := blk_frozen BK668.out 2
                  have hfz84_3 := blk_frozen BK668.out 3
                  have hfz84_4 := blk_frozen BK668.out 4
                  have hnb85 := NB651_634.out
                  have hnc85 := NB634_651.out
                  have hnb86 := NB651_659.out
                  have hnc86 := NB659_651.out
                  have hcz87_0 : w69.cell? ⟨gb651, 0, none⟩ = some (.int .i64 t643) := (blk_cell BK651.out 0).trans rfl
                  have hcz87_1 : w69.cell? ⟨gb651, 1, none⟩ = some (.int .i64 t644) := (blk_cell BK651.out 1).trans rfl
                  have hcz87_2 : w69.cell? ⟨gb651, 2, none⟩ = some (.int .i64 t645) := (blk_cell BK651.out 2).trans rfl
                  have hcz87_3 : w69.cell? ⟨gb651, 3, none⟩ = some (.int .i64 t646) := (blk_cell BK651.out 3).trans rfl
                  have hcz87_4 : w69.cell? ⟨gb651, 4, none⟩ = some (.slice Ao22 t647.length co22) := (blk_cell BK651.out 4).trans rfl
                  have hfz87_0 := blk_frozen BK651.out 0
                  have hfz87_1 := blk_frozen BK651.out 1
                  have hfz87_2 := blk_frozen BK651.out 2
                  have hfz87_3 := blk_frozen BK651.out 3
                  have hfz87_4 := blk_frozen BK651.out 4
                  go_wp2_with (first | (go_at_call 14; (with_reducible refine (laws_eqPattern.calls kj10 t660 t661 t662 t663 _ _ t664 t643 t644 t645 t646 _ _ t647 false _ ?side1 ?side2 ?side3 ?side4 A71.out).mono ?_); (case side1 => repeat (first | exact (Kd.R_reads' HO_669004.out).2.2 | (with_reducible refine Kd.C_alloc ?_ _) | (with_reducible refine Kd.C_drewN ?_ _) | (with_reducible refine Kd.C_drew ?_))); (case side2 => exact (Kd.R_reads' HO_669004.out).2.1); (case side3 => repeat (first | exact (Kd.R_reads' HO_652004.out).2.2 | (with_reducible refine Kd.C_alloc ?_ _) | (with_reducible refine Kd.C_drewN ?_ _) | (with_reducible refine Kd.C_drew ?_))); (case side4 => exact (Kd.R_reads' HO_652004.out).2.1); rintro e w88 ⟨rfl, hb⟩; have n0_ := Aside0.mk (Kd.R_below (by (with_reducible repeat (first | apply Kd.R_alloc | apply Kd.R_drewN | apply Kd.R_drew)); exact HO_652004.out) hb); have n1_ := Aside0.mk (Kd.R_below (by (with_reducible repeat (first | apply Kd.R_alloc | apply Kd.R_drewN | apply Kd.R_drew)); exact HO_660004.out) hb); have n2_ := Aside0.mk (Kd.R_below (by (with_reducible repeat (first | apply Kd.R_alloc | apply Kd.R_drewN | apply Kd.R_drew)); exact HO_669004.out) hb); have n3_ := Aside0.mk (Kd.R_below (by (with_reducible repeat (first | apply Kd.R_alloc | apply Kd.R_drewN | apply Kd.R_drew)); exact HO676.out) hb); have n4_ := Aside0.mk (blk_below (g := gb634) (o := .cells #[.int .i64 a0_0, .int .i64 a0_1, .int .i64 a0_2, .int .i64 a0_3, .slice A0_4 l0_4.length c0_4] 26 (0, 0)) (by (with_reducible repeat (first | refine blk_drewN ?_ _ | refine blk_drew ?_ | refine blk_alloc ?_ _)); exact BK634.out) hb); have n5_ := Aside0.mk (blk_below (g := gb651) (o := .cells #[.int .i64 t643, .int .i64 t644, .int .i64 t645, .int .i64 t646, .slice Ao22 t647.length co22] 31 (0, 0)) (by (with_reducible repeat (first | refine blk_drewN ?_ _ | refine blk_drew ?_ | refine blk_alloc ?_ _)); exact BK651.out) hb); have n6_ := Aside0.mk (blk_below (g := gb659) (o := .cells #[.int .i64 t652, .int .i64 t653, .int .i64 t654, .int .i64 t655, .slice Ao29 t656.length co29] 31 (0, 0)) (by (with_reducible repeat (first | refine blk_drewN ?_ _ | refine blk_drew ?_ | refine blk_alloc ?_ _)); exact BK659.out) hb); have n7_ := Aside0.mk (blk_below (g := gb668) (o := .cells #[.int .i64 t660, .int .i64 t661, .int .i64 t662, .int .i64 t663, .slice Ao36 t664.length co36] 31 (0, 0)) (by (with_reducible repeat (first | refine blk_drewN ?_ _ | refine blk_drew ?_ | refine blk_alloc ?_ _)); exact BK668.out) hb); have n8_ := Aside0.mk (below_step (by repeat (first | (with_reducible first | exact HB.out | apply below_alloc | apply pw_below_drewN | apply below_drew1 | refine below_set ?_ GE634.out | refine below_set ?_ GE651.out | refine below_set ?_ GE659.out | refine below_set ?_ GE668.out) | exact HB.out)) hb); clear HO_652004; clear HO_660004; clear HO_669004; clear HO676; clear BK634; clear BK651; clear BK659; clear BK668; clear HB; have HO_652004 := n0_; have HO_660004 := n1_; have HO_669004 := n2_; have HO676 := n3_; have BK634 := n4_; have BK651 := n5_; have BK659 := n6_; have BK668 := n7_; have HB := n8_; clear n0_ n1_ n2_ n3_ n4_ n5_ n6_ n7_ n8_; (try clear hb); (try clear hb2); (try clear hk); (try clear hi)))
                  go_meet
                  case rel => exact ⟨_, (true), (by first | rfl | (simp; done) | (simp [*]; done)), H', ⟨by have := HJ10.out; first | omega | exact Nat.le_refl _⟩, ⟨by (with_reducible repeat (first | apply Kd.R_alloc | apply Kd.R_drewN | apply Kd.R_drew)); exact Kd.R_mono HO_652004.out (fun _ hk => ⟨hk.1, hk.2.1⟩)⟩, ⟨by (with_reducible repeat (first | apply Kd.R_alloc | apply Kd.R_drewN | apply Kd.R_drew)); exact Kd.R_mono HO_660004.out (fun _ hk => ⟨hk.1.1, hk.1.2⟩)⟩, ⟨by (with_reducible repeat (first | apply Kd.R_alloc | apply Kd.R_drewN | apply Kd.R_drew)); exact Kd.R_mono HO_669004.out (fun _ hk => ⟨hk.1, hk.2.1⟩)⟩, ⟨by (with_reducible repeat (first | refine blk_drewN ?_ _ | refine blk_drew ?_ | refine blk_alloc ?_ _)); exact BK634.out⟩, ⟨by (with_reducible repeat (first | refine blk_drewN ?_ _ | refine blk_drew ?_ | refine blk_alloc ?_ _)); exact BK651.out⟩, ⟨by (with_reducible repeat (first | refine blk_drewN ?_ _ | refine blk_drew ?_ | refine blk_alloc ?_ _)); exact BK659.out⟩, ⟨by (with_reducible repeat (first | refine blk_drewN ?_ _ | refine blk_drew ?_ | refine blk_alloc ?_ _)); exact BK668.out⟩, ⟨by repeat (first | (with_reducible first | exact HB.out | apply below_alloc | apply pw_below_drewN | apply below_drew1 | refine below_set ?_ GE634.out | refine below_set ?_ GE651.out | refine below_set ?_ GE659.out | refine below_set ?_ GE668.out) | exact HB.out)⟩⟩
            case rest =>
              clear HC60
              try clear c1
              try clear c2
              try clear p2
              try clear c3
              try clear c3b0
              try clear c4
              try clear c5
              try clear c6
              try clear c7
              try clear c8
              try clear c10
              try clear c12
              try clear c14
              try clear c18
              try clear c20
              try clear c26
              try clear c27
              try clear c32
              try clear c33
              try clear c34
              try clear c38
              try clear c39
              try clear c40
              try clear c41
              try clear c43
              try clear c44
              try clear c47
              try clear c48
              try clear c49
              try clear c51
              try clear c52
              try clear c55
              try clear c58
              try clear c65
              try clear c66
              try clear c67
              try clear c70
              try clear c70b0
              try clear c72
              try clear c73
              try clear c74
              try clear c75
              try clear c77
              try clear c78
              try clear c81
              try clear c82
              try clear c83
              try clear c85
              try clear c86
              try clear hcz13_0
              try clear hcz13_1
              try clear hcz13_2
              try clear hcz13_3
              try clear hcz13_4
              try clear hcz15_0
              try clear hcz15_1
              try clear hcz15_2
              try clear hcz15_3
              try clear hcz15_4
              try clear hcz21_0
              try clear hcz21_1
              try clear hcz21_2
              try clear hcz21_3
              try clear hcz21_4
              try clear hcz23_0
              try clear hcz23_1
              try clear hcz23_2
              try clear hcz23_3
              try clear hcz23_4
              try clear hcz28_0
              try clear hcz28_1
              try clear hcz28_2
              try clear hcz28_3
              try clear hcz28_4
              try clear hcz35_0
              try clear hcz35_1
              try clear hcz35_2
              try clear hcz35_3
              try clear hcz35_4
              try clear hcz42_0
              try clear hcz42_1
              try clear hcz42_2
              try clear hcz42_3
              try clear hcz42_4
              try clear hcz45_0
              try clear hcz45_1
              try clear hcz45_2
              try clear hcz45_3
              try clear hcz45_4
              try clear hcz50_0
              try clear hcz50_1
              try clear hcz50_2
              try clear hcz50_3
              try clear hcz50_4
              try clear hcz53_0
              try clear hcz53_1
              try clear hcz53_2
              try clear hcz53_3
              try clear hcz53_4
              try clear hcz5_0
              try clear hcz5_1
              try clear hcz5_2
              try clear hcz5_3
              try clear hcz5_4
              try clear hcz68_0
              try clear hcz68_1
              try clear hcz68_2
              try clear hcz68_3
              try clear hcz68_4
              try clear hcz76_0
              try clear hcz76_1
              try clear hcz76_2
              try clear hcz76_3
              try clear hcz76_4
              try clear hcz79_0
              try clear hcz79_1
              try clear hcz79_2
              try clear hcz79_3
              try clear hcz79_4
              try clear hcz84_0
              try clear hcz84_1
              try clear hcz84_2
              try clear hcz84_3
              try clear hcz84_4
              try clear hcz87_0
              try clear hcz87_1
              try clear hcz87_2
              try clear hcz87_3
              try clear hcz87_4
              try clear hfz13_0
              try clear hfz13_1
              try clear hfz13_2
              try clear hfz13_3
              try clear hfz13_4
              try clear hfz15_0
              try clear hfz15_1
              try clear hfz15_2
              try clear hfz15_3
              try clear hfz15_4
              try clear hfz21_0
              try clear hfz21_1
              try clear hfz21_2
              try clear hfz21_3
              try clear hfz21_4
              try clear hfz23_0
              try clear hfz23_1
              try clear hfz23_2
              try clear hfz23_3
              try clear hfz23_4
              try clear hfz28_0
              try clear hfz28_1
              try clear hfz28_2
              try clear hfz28_3
              try clear hfz28_4
              try clear hfz35_0
              try clear hfz35_1
              try clear hfz35_2
              try clear hfz35_3
              try clear hfz35_4
              try clear hfz42_0
              try clear hfz42_1
              try clear hfz42_2
              try clear hfz42_3
              try clear hfz42_4
              try clear hfz45_0
              try clear hfz45_1
              try clear hfz45_2
              try clear hfz45_3
              try clear hfz45_4
              try clear hfz50_0
              try clear hfz50_1
              try clear hfz50_2
              try clear hfz50_3
              try clear hfz50_4
              try clear hfz53_0
              try clear hfz53_1
              try clear hfz53_2
              try clear hfz53_3
              try clear hfz53_4
              try clear hfz5_0
              try clear hfz5_1
              try clear hfz5_2
              try clear hfz5_3
              try clear hfz5_4
              try clear hfz68_0
              try clear hfz68_1
              try clear hfz68_2
              try clear hfz68_3
              try clear hfz68_4
              try clear hfz76_0
              try clear hfz76_1
              try clear hfz76_2
              try clear hfz76_3
              try clear hfz76_4
              try clear hfz79_0
              try clear hfz79_1
              try clear hfz79_2
              try clear hfz79_3
              try clear hfz79_4
              try clear hfz84_0
              try clear hfz84_1
              try clear hfz84_2
              try clear hfz84_3
              try clear hfz84_4
              try clear hfz87_0
              try clear hfz87_1
              try clear hfz87_2
              try clear hfz87_3
              try clear hfz87_4
              try clear p2
              obtain ⟨kq, x61_59, rfl, HA, HJ59, HO_652004, HO_660004, HO_669004, BK634, BK651, BK659, BK668, HB⟩ := hcut
              have hl660004_59 := (Kd.R_reads' HO_660004.out).1
              rw [hl660004_59] at HO_660004
              (try simp only [hl660004_59])
              (try simp only [hl660004_59] at BK634)
              (try simp only [hl660004_59] at BK651)
              (try simp only [hl660004_59] at BK659)
              (try simp only [hl660004_59] at BK668)
              (try simp only [hl660004_59] at HO_652004)
              (try simp only [hl660004_59] at HO_669004)
              cases kq with
              | zero => exact absurd HA.out (by simp [laws_FnExactFirstCome.j1])
              | succ kj59 =>
                have H := HA.out
                clear HA
                simp only [laws_FnExactFirstCome.j1] at H
                by_cases c89 : x61_59 = true
                · subst c89
                  have H1 : (some false) = some true := by rw [if_pos rfl] at H; first | done | exact H
                  clear H
                  have H := H1
                  clear H1
                  exact absurd H (by simp)
                · replace c89 := Bool.eq_false_iff.mpr c89
                  subst c89
                  have H1 : ((laws_markPattern.f kj59 t660 t661 t662 t663 t664 1).bind fun bt681 => ((laws_heldPattern.f kj59 t660 t661 t662 t663 bt681.2 1).bind fun t683 => (if t683 < 0 then (some false) else (if t683 = bt681.1 then ((laws_toPattern.f kj59 a0_0 a0_1 a0_2 a0_3 l0_4).bind fun bt684 => ((impl_FirstCome.f kj59 bt684.1 bt684.2.1 bt684.2.2.1 bt684.2.2.2.1 bt684.2.2.2.2).bind fun bt691 => ((laws_eqPattern.f kj59 bt691.1 bt691.2.1 bt691.2.2.1 bt691.2.2.2.1 bt691.2.2.2.2.1 t643 t644 t645 t646 t647).bind fun t700 => (if t700 = true then (laws_FnExactFirstCome.j2 kj59 bt681.1 (bt691.2.2.2.2.2 != t650) t660 t661 t662 t663 bt681.2) else (laws_FnExactFirstCome.j2 kj59 bt681.1 true t660 t661 t662 t663 bt681.2))))) else (some false))))) = some true := by rw [if_neg (show ¬ (false = true) by decide)] at H; first | done | exact H
                  clear H
                  have H := H1
                  clear H1
                  replace H := Option.bind_eq_some_iff.mp H
                  obtain ⟨⟨t681, t682⟩, A900, H⟩ := H
                  replace H : ((laws_heldPattern.f kj59 t660 t661 t662 t663 t682 1).bind fun t683 => (if t683 < 0 then (some false) else (if t683 = t681 then ((laws_toPattern.f kj59 a0_0 a0_1 a0_2 a0_3 l0_4).bind fun bt684 => ((impl_FirstCome.f kj59 bt684.1 bt684.2.1 bt684.2.2.1 bt684.2.2.2.1 bt684.2.2.2.2).bind fun bt691 => ((laws_eqPattern.f kj59 bt691.1 bt691.2.1 bt691.2.2.1 bt691.2.2.2.1 bt691.2.2.2.2.1 t643 t644 t645 t646 t647).bind fun t700 => (if t700 = true then (laws_FnExactFirstCome.j2 kj59 t681 (bt691.2.2.2.2.2 != t650) t660 t661 t662 t663 t682) else (laws_FnExactFirstCome.j2 kj59 t681 true t660 t661 t662 t663 t682))))) else (some false)))) = some true := H
                  have A90 := Aside0.mk A900
                  clear A900
                  replace H := Option.bind_eq_some_iff.mp H
                  obtain ⟨t683, A910, H⟩ := H
                  replace H : (if t683 < 0 then (some false) else (if t683 = t681 then ((laws_toPattern.f kj59 a0_0 a0_1 a0_2 a0_3 l0_4).bind fun bt684 => ((impl_FirstCome.f kj59 bt684.1 bt684.2.1 bt684.2.2.1 bt684.2.2.2.1 bt684.2.2.2.2).bind fun bt691 => ((laws_eqPattern.f kj59 bt691.1 bt691.2.1 bt691.2.2.1 bt691.2.2.2.1 bt691.2.2.2.2.1 t643 t644 t645 t646 t647).bind fun t700 => (if t700 = true then (laws_FnExactFirstCome.j2 kj59 t681 (bt691.2.2.2.2.2 != t650) t660 t661 t662 t663 t682) else (laws_FnExactFirstCome.j2 kj59 t681 true t660 t661 t662 t663 t682))))) else (some false))) = some true := H
                  have A91 := Aside0.mk A910
                  clear A910
                  by_cases c92 : t683 < 0
                  · rw [if_pos c92] at H
                    have c92b0 : decide (t683 < 0) = true := decide_eq_true c92
                    clear c92
                    exact absurd H (by simp)
                  · rw [if_neg c92] at H
                    have c92b0 : decide (t683 < 0) = false := decide_eq_false c92
                    clear c92
                    by_cases c93 : t683 = t681
                    · rw [if_pos c93] at H
                      have c93b0 : (t683 == t681) = true := beq_iff_eq.mpr c93
                      have c93b1 : (t683 != t681) = false := bne_eq_false_iff_eq.mpr c93
                      clear c93
                      replace H := Option.bind_eq_some_iff.mp H
                      obtain ⟨⟨t684, t685, t686, t687, t688⟩, A940, H⟩ := H
                      replace H : ((impl_FirstCome.f kj59 t684 t685 t686 t687 t688).bind fun bt691 => ((laws_eqPattern.f kj59 bt691.1 bt691.2.1 bt691.2.2.1 bt691.2.2.2.1 bt691.2.2.2.2.1 t643 t644 t645 t646 t647).bind fun t700 => (if t700 = true then (laws_FnExactFirstCome.j2 kj59 t681 (bt691.2.2.2.2.2 != t650) t660 t661 t662 t663 t682) else (laws_FnExactFirstCome.j2 kj59 t681 true t660 t661 t662 t663 t682)))) = some true := H
                      have A94 := Aside0.mk A940
                      clear A940
                      replace H := Option.bind_eq_some_iff.mp H
                      obtain ⟨⟨t691, t692, t693, t694, t695, t698⟩, A950, H⟩ := H
                      replace H : ((laws_eqPattern.f kj59 t691 t692 t693 t694 t695 t643 t644 t645 t646 t647).bind fun t700 => (if t700 = true then (laws_FnExactFirstCome.j2 kj59 t681 (t698 != t650) t660 t661 t662 t663 t682) else (laws_FnExactFirstCome.j2 kj59 t681 true t660 t661 t662 t663 t682))) = some true := H
                      have A95 := Aside0.mk A950
                      clear A950
                      have HC96 := Aside0.mk H
                      clear H
                      have hnb97 := NB668_634.out
                      have hnc97 := NB634_668.out
                      have hnb98 := NB668_651.out
                      have hnc98 := NB651_668.out
                      have hnb99 := NB668_659.out
                      have hnc99 := NB659_668.out
                      have hcz100_0 : wc.cell? ⟨gb668, 0, none⟩ = some (.int .i64 t660) := (blk_cell BK668.out 0).trans rfl
                      have hcz100_1 : wc.cell? ⟨gb668, 1, none⟩ = some (.int .i64 t661) := (blk_cell BK668.out 1).trans rfl
                      have hcz100_2 : wc.cell? ⟨gb668, 2, none⟩ = some (.int .i64 t662) := (blk_cell BK668.out 2).trans rfl
                      have hcz100_3 : wc.cell? ⟨gb668, 3, none⟩ = some (.int .i64 t663) := (blk_cell BK668.out 3).trans rfl
                      have hcz100_4 : wc.cell? ⟨gb668, 4, none⟩ = some (.slice Ao36 t664.length co36) := (blk_cell BK668.out 4).trans rfl
                      have hfz100_0 := blk_frozen BK668.out 0
                      have hfz100_1 := blk_frozen BK668.out 1
                      have hfz100_2 := blk_frozen BK668.out 2
                      have hfz100_3 := blk_frozen BK668.out 3
                      have hfz100_4 := blk_frozen BK668.out 4
                      go_upto_region 25 with (first | ((with_reducible refine gate_callee (f := 18) rfl ?_); refine goesL_ (some 64) rfl rfl Try.func18 (by kernel_rfl) rfl #[.agg #[.int .i64 t660, .int .i64 t661, .int .i64 t662, .int .i64 t663, .slice Ao36 t664.length co36], .int .i64 1] rfl (by (try simp only [List.map_toArray, List.map_cons, List.map_nil]); first | done | rfl | (simp only [List.length_drop, List.length_take]; rfl)) ?_; (with_reducible refine (laws_markPattern.calls kj59 t660 t661 t662 t663 (fun k_ => some k_ = (.slice Ao36 t664.length co36 : Value).ownBlock) (.slice Ao36 t664.length co36) t664 1 t681 t682 w _ ?side1 ?side2 A90.out).mono ?_); (case side1 => repeat (first | (with_reducible first | exact HB.out | apply below_alloc | apply pw_below_drewN | apply below_drew1 | refine below_set ?_ GE634.out | refine below_set ?_ GE651.out | refine below_set ?_ GE659.out | refine below_set ?_ GE668.out) | exact HB.out)); (case side2 => exact Kd.R_tight rfl HO_669004.out); rintro e w101 ⟨rfl, hy0, hb, hkp⟩; refine ⟨_, rfl, ?_⟩; have n0_ := Aside0.mk (Kd.R_mono (ok' := fun k_ => some k_ ≠ (.slice Ao29 t679.length co29 : Value).ownBlock ∧ some k_ ≠ (.slice Ao36 t664.length co36 : Value).ownBlock) (Kd.R_keptB (HO_652004.out) hkp (fun k_ hk_ hs_ => (hk_.2) hs_)) (fun k_ hk_ => ⟨hk_.1.1, hk_.1.2⟩)); have n1_ := Aside0.mk (Kd.R_mono (ok' := fun k_ => some k_ ≠ (.slice Ao22 t647.length co22 : Value).ownBlock ∧ some k_ ≠ (.slice Ao36 t664.length co36 : Value).ownBlock) (Kd.R_keptB (HO_660004.out) hkp (fun k_ hk_ hs_ => (hk_.2) hs_)) (fun k_ hk_ => ⟨hk_.1.1, hk_.1.2⟩)); have n2_ := Aside0.mk (Kd.R_reok rfl hy0 (fun k_ e_ => HO_669004.out.1 k_ e_)); have n3_ := Aside0.mk (blk_kept (by (with_reducible repeat (first | refine blk_drewN ?_ _ | refine blk_drew ?_ | refine blk_alloc ?_ _)); exact BK634.out) hkp (fun hs_ => (fun e_ => (Kd.R_ne HO_669004.out BK634.out (by decide)) e_) hs_)); have n4_ := Aside0.mk (blk_kept (by (with_reducible repeat (first | refine blk_drewN ?_ _ | refine blk_drew ?_ | refine blk_alloc ?_ _)); exact BK651.out) hkp (fun hs_ => (fun e_ => (Kd.R_ne HO_669004.out BK651.out (by decide)) e_) hs_)); have n5_ := Aside0.mk (blk_kept (by (with_reducible repeat (first | refine blk_drewN ?_ _ | refine blk_drew ?_ | refine blk_alloc ?_ _)); exact BK659.out) hkp (fun hs_ => (fun e_ => (Kd.R_ne HO_669004.out BK659.out (by decide)) e_) hs_)); have n6_ := Aside0.mk (blk_kept (by (with_reducible repeat (first | refine blk_drewN ?_ _ | refine blk_drew ?_ | refine blk_alloc ?_ _)); exact BK668.out) hkp (fun hs_ => (fun e_ => (Kd.R_ne HO_669004.out BK668.out (by decide)) e_) hs_)); have n7_ := Aside0.mk (hb); clear HO_652004; clear HO_660004; clear HO_669004; clear BK634; clear BK651; clear BK659; clear BK668; clear HB; have HO_652004 := n0_; have HO_660004 := n1_; have HO_669004 := n2_; have BK634 := n3_; have BK651 := n4_; have BK659 := n5_; have BK668 := n6_; have HB := n7_; clear n0_ n1_ n2_ n3_ n4_ n5_ n6_ n7_; (try clear hb); (try clear hkp); (try clear hy0); have hcz102_0 : w101.cell? ⟨gb668, 0, none⟩ = some (.int .i64 t660) := (blk_cell BK668.out 0).trans rfl; have hcz102_1 : w101.cell? ⟨gb668, 1, none⟩ = some (.int .i64 t661) := (blk_cell BK668.out 1).trans rfl; have hcz102_2 : w101.cell? ⟨gb668, 2, none⟩ = some (.int .i64 t662) := (blk_cell BK668.out 2).trans rfl; have hcz102_3 : w101.cell? ⟨gb668, 3, none⟩ = some (.int .i64 t663) := (blk_cell BK668.out 3).trans rfl; have hcz102_4 : w101.cell? ⟨gb668, 4, none⟩ = some (.slice Ao36 t664.length co36) := (blk_cell BK668.out 4).trans rfl; have hfz102_0 := blk_frozen BK668.out 0; have hfz102_1 := blk_frozen BK668.out 1; have hfz102_2 := blk_frozen BK668.out 2; have hfz102_3 := blk_frozen BK668.out 3; have hfz102_4 := blk_frozen BK668.out 4) | ((with_reducible refine gate_callee (f := 32) rfl ?_); refine goesL_ (some 67) rfl rfl Try.func32 (by kernel_rfl) rfl #[.agg #[.int .i64 t660, .int .i64 t661, .int .i64 t662, .int .i64 t663, .slice Ao36 t682.length co36], .int .i64 1] rfl (by (try simp only [List.map_toArray, List.map_cons, List.map_nil]); first | done | (rw [show t682.length = t664.length from (Kd.R_reads' HO_669004.out).1.symm] <;> rfl) | rfl | (simp only [List.length_drop, List.length_take]; rfl)) ?_; (with_reducible refine (laws_heldPattern.calls kj59 t660 t661 t662 t663 _ _ t682 1 t683 _ ?side1 ?side2 A91.out).mono ?_); (case side1 => repeat (first | exact (Kd.R_reads' HO_669004.out).2.2 | (with_reducible refine Kd.C_alloc ?_ _) | (with_reducible refine Kd.C_drewN ?_ _) | (with_reducible refine Kd.C_drew ?_))); (case side2 => rw [show t682.length = t664.length from (Kd.R_reads' HO_669004.out).1.symm]; exact (Kd.R_reads' HO_669004.out).2.1); rintro e w103 ⟨rfl, hb⟩; refine ⟨_, rfl, ?_⟩; have n0_ := Aside0.mk (Kd.R_below (by (with_reducible repeat (first | apply Kd.R_alloc | apply Kd.R_drewN | apply Kd.R_drew)); exact HO_652004.out) hb); have n1_ := Aside0.mk (Kd.R_below (by (with_reducible repeat (first | apply Kd.R_alloc | apply Kd.R_drewN | apply Kd.R_drew)); exact HO_660004.out) hb); have n2_ := Aside0.mk (Kd.R_below (by (with_reducible repeat (first | apply Kd.R_alloc | apply Kd.R_drewN | apply Kd.R_drew)); exact HO_669004.out) hb); have n3_ := Aside0.mk (blk_below (g := gb634) (o := .cells #[.int .i64 a0_0, .int .i64 a0_1, .int .i64 a0_2, .int .i64 a0_3, .slice A0_4 l0_4.length c0_4] 26 (0, 0)) (by (with_reducible repeat (first | refine blk_drewN ?_ _ | refine blk_drew ?_ | refine blk_alloc ?_ _)); exact BK634.out) hb); have n4_ := Aside0.mk (blk_below (g := gb651) (o := .cells #[.int .i64 t643, .int .i64 t644, .int .i64 t645, .int .i64 t646, .slice Ao22 t647.length co22] 31 (0, 0)) (by (with_reducible repeat (first | refine blk_drewN ?_ _ | refine blk_drew ?_ | refine blk_alloc ?_ _)); exact BK651.out) hb); have n5_ := Aside0.mk (blk_below (g := gb659) (o := .cells #[.int .i64 t652, .int .i64 t653, .int .i64 t654, .int .i64 t655, .slice Ao29 t679.length co29] 31 (0, 0)) (by (with_reducible repeat (first | refine blk_drewN ?_ _ | refine blk_drew ?_ | refine blk_alloc ?_ _)); exact BK659.out) hb); have n6_ := Aside0.mk (blk_below (g := gb668) (o := .cells #[.int .i64 t660, .int .i64 t661, .int .i64 t662, .int .i64 t663, .slice Ao36 t664.length co36] 31 (0, 0)) (by (with_reducible repeat (first | refine blk_drewN ?_ _ | refine blk_drew ?_ | refine blk_alloc ?_ _)); exact BK668.out) hb); have n7_ := Aside0.mk (below_step (by repeat (first | (with_reducible first | exact HB.out | apply below_alloc | apply pw_below_drewN | apply below_drew1 | refine below_set ?_ GE634.out | refine below_set ?_ GE651.out | refine below_set ?_ GE659.out | refine below_set ?_ GE668.out) | exact HB.out)) hb); clear HO_652004; clear HO_660004; clear HO_669004; clear BK634; clear BK651; clear BK659; clear BK668; clear HB; have HO_652004 := n0_; have HO_660004 := n1_; have HO_669004 := n2_; have BK634 := n3_; have BK651 := n4_; have BK659 := n5_; have BK668 := n6_; have HB := n7_; clear n0_ n1_ n2_ n3_ n4_ n5_ n6_ n7_; (try clear hb); (try clear hb2); (try clear hk); (try clear hi); have hnb104 := NB634_651.out; have hnc104 := NB651_634.out; have hnb105 := NB634_659.out; have hnc105 := NB659_634.out; have hcz106_0 : w103.cell? ⟨gb634, 0, none⟩ = some (.int .i64 a0_0) := (blk_cell BK634.out 0).trans rfl; have hcz106_1 : w103.cell? ⟨gb634, 1, none⟩ = some (.int .i64 a0_1) := (blk_cell BK634.out 1).trans rfl; have hcz106_2 : w103.cell? ⟨gb634, 2, none⟩ = some (.int .i64 a0_2) := (blk_cell BK634.out 2).trans rfl; have hcz106_3 : w103.cell? ⟨gb634, 3, none⟩ = some (.int .i64 a0_3) := (blk_cell BK634.out 3).trans rfl; have hcz106_4 : w103.cell? ⟨gb634, 4, none⟩ = some (.slice A0_4 l0_4.length c0_4) := (blk_cell BK634.out 4).trans rfl; have hfz106_0 := blk_frozen BK634.out 0; have hfz106_1 := blk_frozen BK634.out 1; have hfz106_2 := blk_frozen BK634.out 2; have hfz106_3 := blk_frozen BK634.out 3; have hfz106_4 := blk_frozen BK634.out 4) | ((with_reducible refine gate_callee (f := 12) rfl ?_); refine goesL_ (some 75) rfl rfl Try.func12 (by kernel_rfl) rfl #[.agg #[.int .i64 a0_0, .int .i64 a0_1, .int .i64 a0_2, .int .i64 a0_3, .slice A0_4 l0_4.length c0_4]] rfl (by (try simp only [List.map_toArray, List.map_cons, List.map_nil]); first | done | rfl | (simp only [List.length_drop, List.length_take]; rfl)) ?_; (with_reducible refine (laws_toPattern.calls kj59 a0_0 a0_1 a0_2 a0_3 _ _ l0_4 t684 t685 t686 t687 t688 _ ?side1 ?side2 A94.out).mono ?_); (case side1 => repeat (first | exact (Kd.C_below HR0_4.out HB.out) | (with_reducible refine Kd.C_alloc ?_ _) | (with_reducible refine Kd.C_drewN ?_ _) | (with_reducible refine Kd.C_drew ?_))); (case side2 => exact HC0_4.out); rintro e w107 ⟨v689, rfl, ho0, hb⟩; refine ⟨_, rfl, ?_⟩; have n0_ := Aside0.mk (Kd.R_elder' (by (with_reducible repeat (first | apply Kd.R_alloc | apply Kd.R_drewN | apply Kd.R_drew)); exact HO_652004.out) (Kd.R_base ho0) hb); have n1_ := Aside0.mk (Kd.R_elder' (by (with_reducible repeat (first | apply Kd.R_alloc | apply Kd.R_drewN | apply Kd.R_drew)); exact HO_660004.out) (Kd.R_base ho0) hb); have n2_ := Aside0.mk (Kd.R_elder' (by (with_reducible repeat (first | apply Kd.R_alloc | apply Kd.R_drewN | apply Kd.R_drew)); exact HO_669004.out) (Kd.R_base ho0) hb); have n3_ := Aside0.mk (Kd.R_lower (Kd.R_new' (Kd.R_new' (Kd.R_new' ho0 (Kd.R_lt (by (with_reducible repeat (first | apply Kd.R_alloc | apply Kd.R_drewN | apply Kd.R_drew)); exact HO_652004.out))) (Kd.R_lt (by (with_reducible repeat (first | apply Kd.R_alloc | apply Kd.R_drewN | apply Kd.R_drew)); exact HO_660004.out))) (Kd.R_lt (by (with_reducible repeat (first | apply Kd.R_alloc | apply Kd.R_drewN | apply Kd.R_drew)); exact HO_669004.out))) (below_size (by repeat (first | (with_reducible first | exact HB.out | apply below_alloc | apply pw_below_drewN | apply below_drew1 | refine below_set ?_ GE634.out | refine below_set ?_ GE651.out | refine below_set ?_ GE659.out | refine below_set ?_ GE668.out) | exact HB.out)))); have n4_ := Aside0.mk (blk_below (g := gb634) (o := .cells #[.int .i64 a0_0, .int .i64 a0_1, .int .i64 a0_2, .int .i64 a0_3, .slice A0_4 l0_4.length c0_4] 26 (0, 0)) (by (with_reducible repeat (first | refine blk_drewN ?_ _ | refine blk_drew ?_ | refine blk_alloc ?_ _)); exact BK634.out) hb); have n5_ := Aside0.mk (blk_below (g := gb651) (o := .cells #[.int .i64 t643, .int .i64 t644, .int .i64 t645, .int .i64 t646, .slice Ao22 t647.length co22] 31 (0, 0)) (by (with_reducible repeat (first | refine blk_drewN ?_ _ | refine blk_drew ?_ | refine blk_alloc ?_ _)); exact BK651.out) hb); have n6_ := Aside0.mk (blk_below (g := gb659) (o := .cells #[.int .i64 t652, .int .i64 t653, .int .i64 t654, .int .i64 t655, .slice Ao29 t679.length co29] 31 (0, 0)) (by (with_reducible repeat (first | refine blk_drewN ?_ _ | refine blk_drew ?_ | refine blk_alloc ?_ _)); exact BK659.out) hb); have n7_ := Aside0.mk (blk_below (g := gb668) (o := .cells #[.int .i64 t660, .int .i64 t661, .int .i64 t662, .int .i64 t663, .slice Ao36 t664.length co36] 31 (0, 0)) (by (with_reducible repeat (first | refine blk_drewN ?_ _ | refine blk_drew ?_ | refine blk_alloc ?_ _)); exact BK668.out) hb); have n8_ := Aside0.mk (below_step (by repeat (first | (with_reducible first | exact HB.out | apply below_alloc | apply pw_below_drewN | apply below_drew1 | refine below_set ?_ GE634.out | refine below_set ?_ GE651.out | refine below_set ?_ GE659.out | refine below_set ?_ GE668.out) | exact HB.out)) hb); clear HO_652004; clear HO_660004; clear HO_669004; clear BK634; clear BK651; clear BK659; clear BK668; clear HB; have HO_652004 := n0_; have HO_660004 := n1_; have HO_669004 := n2_; have HO690 := n3_; have BK634 := n4_; have BK651 := n5_; have BK659 := n6_; have BK668 := n7_; have HB := n8_; clear n0_ n1_ n2_ n3_ n4_ n5_ n6_ n7_ n8_; (try clear hb); (try clear hb2); (try clear hk); (try clear hi); (try clear ho0); obtain ⟨Ao108, co108, eo108⟩ := Kd.R_slice HO690.out; subst eo108) | ((with_reducible refine gate_callee (f := 34) rfl ?_); refine goesL_ (some 76) rfl rfl Try.func34 (by kernel_rfl) rfl #[.agg #[.int .i64 t684, .int .i64 t685, .int .i64 t686, .int .i64 t687, .slice Ao108 t688.length co108]] rfl (by (try simp only [List.map_toArray, List.map_cons, List.map_nil]); first | done | rfl | (simp only [List.length_drop, List.length_take]; rfl)) ?_; (with_reducible refine (impl_FirstCome.calls kj59 t684 t685 t686 t687 _ _ t688 t691 t692 t693 t694 t695 t698 _ ?side1 ?side2 A95.out).mono ?_); (case side1 => repeat (first | exact (Kd.R_reads' HO690.out).2.2 | (with_reducible refine Kd.C_alloc ?_ _) | (with_reducible refine Kd.C_drewN ?_ _) | (with_reducible refine Kd.C_drew ?_))); (case side2 => exact (Kd.R_reads' HO690.out).2.1); rintro e w109 ⟨v696, rfl, ho0, hb⟩; refine ⟨_, rfl, ?_⟩; have n0_ := Aside0.mk (Kd.R_elder' (by (with_reducible repeat (first | apply Kd.R_alloc | apply Kd.R_drewN | apply Kd.R_drew)); exact HO_652004.out) (Kd.R_base ho0) hb); have n1_ := Aside0.mk (Kd.R_elder' (by (with_reducible repeat (first | apply Kd.R_alloc | apply Kd.R_drewN | apply Kd.R_drew)); exact HO_660004.out) (Kd.R_base ho0) hb); have n2_ := Aside0.mk (Kd.R_elder' (by (with_reducible repeat (first | apply Kd.R_alloc | apply Kd.R_drewN | apply Kd.R_drew)); exact HO_669004.out) (Kd.R_base ho0) hb); have n3_ := Aside0.mk (Kd.R_elder' (by (with_reducible repeat (first | apply Kd.R_alloc | apply Kd.R_drewN | apply Kd.R_drew)); exact HO690.out) (Kd.R_base ho0) hb); have n4_ := Aside0.mk (Kd.R_lower (Kd.R_new' (Kd.R_new' (Kd.R_new' (Kd.R_new' ho0 (Kd.R_lt (by (with_reducible repeat (first | apply Kd.R_alloc | apply Kd.R_drewN | apply Kd.R_drew)); exact HO_652004.out))) (Kd.R_lt (by (with_reducible repeat (first | apply Kd.R_alloc | apply Kd.R_drewN | apply Kd.R_drew)); exact HO_660004.out))) (Kd.R_lt (by (with_reducible repeat (first | apply Kd.R_alloc | apply Kd.R_drewN | apply Kd.R_drew)); exact HO_669004.out))) (Kd.R_lt (by (with_reducible repeat (first | apply Kd.R_alloc | apply Kd.R_drewN | apply Kd.R_drew)); exact HO690.out))) (below_size (by repeat (first | (with_reducible first | exact HB.out | apply below_alloc | apply pw_below_drewN | apply below_drew1 | refine below_set ?_ GE634.out | refine below_set ?_ GE651.out | refine below_set ?_ GE659.out | refine below_set ?_ GE668.out) | exact HB.out)))); have n5_ := Aside0.mk (blk_below (g := gb634) (o := .cells #[.int .i64 a0_0, .int .i64 a0_1, .int .i64 a0_2, .int .i64 a0_3, .slice A0_4 l0_4.length c0_4] 26 (0, 0)) (by (with_reducible repeat (first | refine blk_drewN ?_ _ | refine blk_drew ?_ | refine blk_alloc ?_ _)); exact BK634.out) hb); have n6_ := Aside0.mk (blk_below (g := gb651) (o := .cells #[.int .i64 t643, .int .i64 t644, .int .i64 t645, .int .i64 t646, .slice Ao22 t647.length co22] 31 (0, 0)) (by (with_reducible repeat (first | refine blk_drewN ?_ _ | refine blk_drew ?_ | refine blk_alloc ?_ _)); exact BK651.out) hb); have n7_ := Aside0.mk (blk_below (g := gb659) (o := .cells #[.int .i64 t652, .int .i64 t653, .int .i64 t654, .int .i64 t655, .slice Ao29 t679.length co29] 31 (0, 0)) (by (with_reducible repeat (first | refine blk_drewN ?_ _ | refine blk_drew ?_ | refine blk_alloc ?_ _)); exact BK659.out) hb); have n8_ := Aside0.mk (blk_below (g := gb668) (o := .cells #[.int .i64 t660, .int .i64 t661, .int .i64 t662, .int .i64 t663, .slice Ao36 t664.length co36] 31 (0, 0)) (by (with_reducible repeat (first | refine blk_drewN ?_ _ | refine blk_drew ?_ | refine blk_alloc ?_ _)); exact BK668.out) hb); have n9_ := Aside0.mk (below_step (by repeat (first | (with_reducible first | exact HB.out | apply below_alloc | apply pw_below_drewN | apply below_drew1 | refine below_set ?_ GE634.out | refine below_set ?_ GE651.out | refine below_set ?_ GE659.out | refine below_set ?_ GE668.out) | exact HB.out)) hb); clear HO_652004; clear HO_660004; clear HO_669004; clear HO690; clear BK634; clear BK651; clear BK659; clear BK668; clear HB; have HO_652004 := n0_; have HO_660004 := n1_; have HO_669004 := n2_; have HO690 := n3_; have HO697 := n4_; have BK634 := n5_; have BK651 := n6_; have BK659 := n7_; have BK668 := n8_; have HB := n9_; clear n0_ n1_ n2_ n3_ n4_ n5_ n6_ n7_ n8_ n9_; (try clear hb); (try clear hb2); (try clear hk); (try clear hi); (try clear ho0)) | ((with_reducible refine gate_dst (N := 12) rfl ?_); refine box_event ?hg (N := 12) ?hd (cs := #[.int .i64 0, .int .i64 0, .int .i64 0, .int .i64 0, .slice none 0 0]) (t := 31) ?hr ?_; (case hd => rfl); (case hg => rfl); (case hr => first | (go_simp; done) | (go_simp; rfl)); intro gb699 hg w110 hbox hb; have n0_ := Aside0.mk (Kd.R_below (by (with_reducible repeat (first | apply Kd.R_alloc | apply Kd.R_drewN | apply Kd.R_drew)); exact HO_652004.out) hb); have n1_ := Aside0.mk (Kd.R_below (by (with_reducible repeat (first | apply Kd.R_alloc | apply Kd.R_drewN | apply Kd.R_drew)); exact HO_660004.out) hb); have n2_ := Aside0.mk (Kd.R_below (by (with_reducible repeat (first | apply Kd.R_alloc | apply Kd.R_drewN | apply Kd.R_drew)); exact HO_669004.out) hb); have n3_ := Aside0.mk (Kd.R_below (by (with_reducible repeat (first | apply Kd.R_alloc | apply Kd.R_drewN | apply Kd.R_drew)); exact HO690.out) hb); have n4_ := Aside0.mk (Kd.R_below (by (with_reducible repeat (first | apply Kd.R_alloc | apply Kd.R_drewN | apply Kd.R_drew)); exact HO697.out) hb); have n5_ := Aside0.mk (blk_below (g := gb634) (o := .cells #[.int .i64 a0_0, .int .i64 a0_1, .int .i64 a0_2, .int .i64 a0_3, .slice A0_4 l0_4.length c0_4] 26 (0, 0)) (by (with_reducible repeat (first | refine blk_drewN ?_ _ | refine blk_drew ?_ | refine blk_alloc ?_ _)); exact BK634.out) hb); have n6_ := Aside0.mk (blk_below (g := gb651) (o := .cells #[.int .i64 t643, .int .i64 t644, .int .i64 t645, .int .i64 t646, .slice Ao22 t647.length co22] 31 (0, 0)) (by (with_reducible repeat (first | refine blk_drewN ?_ _ | refine blk_drew ?_ | refine blk_alloc ?_ _)); exact BK651.out) hb); have n7_ := Aside0.mk (blk_below (g := gb659) (o := .cells #[.int .i64 t652, .int .i64 t653, .int .i64 t654, .int .i64 t655, .slice Ao29 t679.length co29] 31 (0, 0)) (by (with_reducible repeat (first | refine blk_drewN ?_ _ | refine blk_drew ?_ | refine blk_alloc ?_ _)); exact BK659.out) hb); have n8_ := Aside0.mk (blk_below (g := gb668) (o := .cells #[.int .i64 t660, .int .i64 t661, .int .i64 t662, .int .i64 t663, .slice Ao36 t664.length co36] 31 (0, 0)) (by (with_reducible repeat (first | refine blk_drewN ?_ _ | refine blk_drew ?_ | refine blk_alloc ?_ _)); exact BK668.out) hb); have n9_ := Aside0.mk (below_step (by repeat (first | (with_reducible first | exact HB.out | apply below_alloc | apply pw_below_drewN | apply below_drew1 | refine below_set ?_ GE634.out | refine below_set ?_ GE651.out | refine below_set ?_ GE659.out | refine below_set ?_ GE668.out) | exact HB.out)) hb); have n10_ := Aside0.mk (hbox); have n11_ := Aside0.mk ((by rw [hg]; exact (below_size (by repeat (first | (with_reducible first | exact HB.out | apply below_alloc | apply pw_below_drewN | apply below_drew1 | refine below_set ?_ GE634.out | refine below_set ?_ GE651.out | refine below_set ?_ GE659.out | refine below_set ?_ GE668.out) | exact HB.out))) : w.heap.size ≤ gb699)); have n12_ := Aside0.mk ((by rw [hg]; exact (below_size (by repeat (first | (with_reducible first | exact HB.out | apply below_alloc | apply pw_below_drewN | apply below_drew1 | refine below_set ?_ GE634.out | refine below_set ?_ GE651.out | refine below_set ?_ GE659.out | refine below_set ?_ GE668.out) | exact HB.out))) : w.heap.size ≤ gb699)); have n13_ := Aside0.mk ((by rw [hg]; exact Nat.ne_of_lt (blk_lt (g := gb634) (o := .cells #[.int .i64 a0_0, .int .i64 a0_1, .int .i64 a0_2, .int .i64 a0_3, .slice A0_4 l0_4.length c0_4] 26 (0, 0)) (by (with_reducible repeat (first | refine blk_drewN ?_ _ | refine blk_drew ?_ | refine blk_alloc ?_ _)); exact BK634.out)) : gb634 ≠ gb699)); have n14_ := Aside0.mk ((by rw [hg]; exact Nat.ne_of_gt (blk_lt (g := gb634) (o := .cells #[.int .i64 a0_0, .int .i64 a0_1, .int .i64 a0_2, .int .i64 a0_3, .slice A0_4 l0_4.length c0_4] 26 (0, 0)) (by (with_reducible repeat (first | refine blk_drewN ?_ _ | refine blk_drew ?_ | refine blk_alloc ?_ _)); exact BK634.out)) : gb699 ≠ gb634)); have n15_ := Aside0.mk ((by rw [hg]; exact Nat.ne_of_lt (blk_lt (g := gb651) (o := .cells #[.int .i64 t643, .int .i64 t644, .int .i64 t645, .int .i64 t646, .slice Ao22 t647.length co22] 31 (0, 0)) (by (with_reducible repeat (first | refine blk_drewN ?_ _ | refine blk_drew ?_ | refine blk_alloc ?_ _)); exact BK651.out)) : gb651 ≠ gb699)); have n16_ := Aside0.mk ((by rw [hg]; exact Nat.ne_of_gt (blk_lt (g := gb651) (o := .cells #[.int .i64 t643, .int .i64 t644, .int .i64 t645, .int .i64 t646, .slice Ao22 t647.length co22] 31 (0, 0)) (by (with_reducible repeat (first | refine blk_drewN ?_ _ | refine blk_drew ?_ | refine blk_alloc ?_ _)); exact BK651.out)) : gb699 ≠ gb651)); have n17_ := Aside0.mk ((by rw [hg]; exact Nat.ne_of_lt (blk_lt (g := gb659) (o := .cells #[.int .i64 t652, .int .i64 t653, .int .i64 t654, .int .i64 t655, .slice Ao29 t679.length co29] 31 (0, 0)) (by (with_reducible repeat (first | refine blk_drewN ?_ _ | refine blk_drew ?_ | refine blk_alloc ?_ _)); exact BK659.out)) : gb659 ≠ gb699)); have n18_ := Aside0.mk ((by rw [hg]; exact Nat.ne_of_gt (blk_lt (g := gb659) (o := .cells #[.int .i64 t652, .int .i64 t653, .int .i64 t654, .int .i64 t655, .slice Ao29 t679.length co29] 31 (0, 0)) (by (with_reducible repeat (first | refine blk_drewN ?_ _ | refine blk_drew ?_ | refine blk_alloc ?_ _)); exact BK659.out)) : gb699 ≠ gb659)); have n19_ := Aside0.mk ((by rw [hg]; exact Nat.ne_of_lt (blk_lt (g := gb668) (o := .cells #[.int .i64 t660, .int .i64 t661, .int .i64 t662, .int .i64 t663, .slice Ao36 t664.length co36] 31 (0, 0)) (by (with_reducible repeat (first | refine blk_drewN ?_ _ | refine blk_drew ?_ | refine blk_alloc ?_ _)); exact BK668.out)) : gb668 ≠ gb699)); have n20_ := Aside0.mk ((by rw [hg]; exact Nat.ne_of_gt (blk_lt (g := gb668) (o := .cells #[.int .i64 t660, .int .i64 t661, .int .i64 t662, .int .i64 t663, .slice Ao36 t664.length co36] 31 (0, 0)) (by (with_reducible repeat (first | refine blk_drewN ?_ _ | refine blk_drew ?_ | refine blk_alloc ?_ _)); exact BK668.out)) : gb699 ≠ gb668)); clear HO_652004; clear HO_660004; clear HO_669004; clear HO690; clear HO697; clear BK634; clear BK651; clear BK659; clear BK668; clear HB; have HO_652004 := n0_; have HO_660004 := n1_; have HO_669004 := n2_; have HO690 := n3_; have HO697 := n4_; have BK634 := n5_; have BK651 := n6_; have BK659 := n7_; have BK668 := n8_; have HB := n9_; have BK699 := n10_; have GW699 := n11_; have GE699 := n12_; have NB634_699 := n13_; have NB699_634 := n14_; have NB651_699 := n15_; have NB699_651 := n16_; have NB659_699 := n17_; have NB699_659 := n18_; have NB668_699 := n19_; have NB699_668 := n20_; clear n0_ n1_ n2_ n3_ n4_ n5_ n6_ n7_ n8_ n9_ n10_ n11_ n12_ n13_ n14_ n15_ n16_ n17_ n18_ n19_ n20_; clear hb hbox hg; have hnb111 := NB699_634.out; have hnc111 := NB634_699.out; have hnb112 := NB699_651.out; have hnc112 := NB651_699.out; have hnb113 := NB699_659.out; have hnc113 := NB659_699.out; have hnb114 := NB699_668.out; have hnc114 := NB668_699.out; have hcz115_0 : w110.cell? ⟨gb699, 0, none⟩ = some (.int .i64 0) := (blk_cell BK699.out 0).trans rfl; have hcz115_1 : w110.cell? ⟨gb699, 1, none⟩ = some (.int .i64 0) := (blk_cell BK699.out 1).trans rfl; have hcz115_2 : w110.cell? ⟨gb699, 2, none⟩ = some (.int .i64 0) := (blk_cell BK699.out 2).trans rfl; have hcz115_3 : w110.cell? ⟨gb699, 3, none⟩ = some (.int .i64 0) := (blk_cell BK699.out 3).trans rfl; have hcz115_4 : w110.cell? ⟨gb699, 4, none⟩ = some (.slice none 0 0) := (blk_cell BK699.out 4).trans rfl; have hfz115_0 := blk_frozen BK699.out 0; have hfz115_1 := blk_frozen BK699.out 1; have hfz115_2 := blk_frozen BK699.out 2; have hfz115_3 := blk_frozen BK699.out 3; have hfz115_4 := blk_frozen BK699.out 4; obtain ⟨Ao116, co116, eo116⟩ := Kd.R_slice HO697.out; subst eo116))
                      (try simp only [Act.put, List.setIfInBounds_toArray, List.set_cons_zero, List.set_cons_succ])
                      go_cut [87] (fun v87 wc => ∃ (kq : Nat) (x87_95 : Bool), v87 = .bool x87_95 ∧ Aside0 (laws_FnExactFirstCome.j2 kq t681 x87_95 t660 t661 t662 t663 t682 = some true) ∧ Aside0 (kq ≤ kj59) ∧ Aside0 (Kd.R (Kd.int .i64) 2 wc w.heap.size (fun k_ => some k_ ≠ ((.slice Ao29 t679.length co29) : Value).ownBlock ∧ some k_ ≠ ((.slice Ao36 t664.length co36) : Value).ownBlock ∧ some k_ ≠ ((.slice Ao116 t695.length co116) : Value).ownBlock) (.slice Ao22 t647.length co22) t647) ∧ Aside0 (Kd.R (Kd.int .i64) 2 wc w.heap.size (fun k_ => some k_ ≠ ((.slice Ao22 t647.length co22) : Value).ownBlock ∧ some k_ ≠ ((.slice Ao36 t664.length co36) : Value).ownBlock ∧ some k_ ≠ ((.slice Ao116 t695.length co116) : Value).ownBlock) (.slice Ao29 t679.length co29) t679) ∧ Aside0 (Kd.R (Kd.int .i64) 2 wc w.heap.size (fun k_ => some k_ ≠ ((.slice Ao22 t647.length co22) : Value).ownBlock ∧ some k_ ≠ ((.slice Ao29 t679.length co29) : Value).ownBlock ∧ some k_ ≠ ((.slice Ao116 t695.length co116) : Value).ownBlock) (.slice Ao36 t664.length co36) t682) ∧ Aside0 (Kd.R (Kd.int .i64) 2 wc w.heap.size (fun k_ => some k_ ≠ ((.slice Ao22 t647.length co22) : Value).ownBlock ∧ some k_ ≠ ((.slice Ao29 t679.length co29) : Value).ownBlock ∧ some k_ ≠ ((.slice Ao36 t664.length co36) : Value).ownBlock) (.slice Ao116 t695.length co116) t695) ∧ Aside0 (wc.heap[gb634]? = some (.cells #[.int .i64 a0_0, .int .i64 a0_1, .int .i64 a0_2, .int .i64 a0_3, (.slice A0_4 l0_4.length c0_4)] 26 (0, 0))) ∧ Aside0 (wc.heap[gb651]? = some (.cells #[.int .i64 t643, .int .i64 t644, .int .i64 t645, .int .i64 t646, (.slice Ao22 t647.length co22)] 31 (0, 0))) ∧ Aside0 (wc.heap[gb659]? = some (.cells #[.int .i64 t652, .int .i64 t653, .int .i64 t654, .int .i64 t655, (.slice Ao29 t679.length co29)] 31 (0, 0))) ∧ Aside0 (wc.heap[gb668]? = some (.cells #[.int .i64 t660, .int .i64 t661, .int .i64 t662, .int .i64 t663, (.slice Ao36 t664.length co36)] 31 (0, 0))) ∧ Aside0 (wc.heap[gb699]? = some (.cells #[.int .i64 t691, .int .i64 t692, .int .i64 t693, .int .i64 t694, (.slice Ao116 t695.length co116)] 31 (0, 0))) ∧ Aside0 (Below w.heap.size w wc))
                      case first =>
                        have H := HC96.out
                        clear HC96
                        replace H := Option.bind_eq_some_iff.mp H
                        obtain ⟨t700, A1170, H⟩ := H
                        replace H : (if t700 = true then (laws_FnExactFirstCome.j2 kj59 t681 (t698 != t650) t660 t661 t662 t663 t682) else (laws_FnExactFirstCome.j2 kj59 t681 true t660 t661 t662 t663 t682)) = some true := H
                        have A117 := Aside0.mk A1170
                        clear A1170
                        by_cases c118 : t700 = true
                        · subst c118
                          have H1 : (laws_FnExactFirstCome.j2 kj59 t681 (t698 != t650) t660 t661 t662 t663 t682) = some true := by rw [if_pos rfl] at H; first | done | exact H
                          clear H
                          have H := H1
                          clear H1
                          have H' := Aside0.mk H
                          clear H
                          have hnb119 := NB699_634.out
                          have hnc119 := NB634_699.out
                          have hnb120 := NB699_651.out
                          have hnc120 := NB651_699.out
                          have hnb121 := NB699_659.out
                          have hnc121 := NB659_699.out
                          have hnb122 := NB699_668.out
                          have hnc122 := NB668_699.out
                          have hcz123_0 : w110.cell? ⟨gb699, 0, none⟩ = some (.int .i64 0) := (blk_cell BK699.out 0).trans rfl
                          have hcz123_1 : w110.cell? ⟨gb699, 1, none⟩ = some (.int .i64 0) := (blk_cell BK699.out 1).trans rfl
                          have hcz123_2 : w110.cell? ⟨gb699, 2, none⟩ = some (.int .i64 0) := (blk_cell BK699.out 2).trans rfl
                          have hcz123_3 : w110.cell? ⟨gb699, 3, none⟩ = some (.int .i64 0) := (blk_cell BK699.out 3).trans rfl
                          have hcz123_4 : w110.cell? ⟨gb699, 4, none⟩ = some (.slice none 0 0) := (blk_cell BK699.out 4).trans rfl
                          have hfz123_0 := blk_frozen BK699.out 0
                          have hfz123_1 := blk_frozen BK699.out 1
                          have hfz123_2 := blk_frozen BK699.out 2
                          have hfz123_3 := blk_frozen BK699.out 3
                          have hfz123_4 := blk_frozen BK699.out 4
                          have hnb124 := NB651_634.out
                          have hnc124 := NB634_651.out
                          have hnb125 := NB651_659.out
                          have hnc125 := NB659_651.out
                          have hnb126 := NB651_668.out
                          have hnc126 := NB668_651.out
                          have hcz127_0 : w110.cell? ⟨gb651, 0, none⟩ = some (.int .i64 t643) := (blk_cell BK651.out 0).trans rfl
                          have hcz127_1 : w110.cell? ⟨gb651, 1, none⟩ = some (.int .i64 t644) := (blk_cell BK651.out 1).trans rfl
                          have hcz127_2 : w110.cell? ⟨gb651, 2, none⟩ = some (.int .i64 t645) := (blk_cell BK651.out 2).trans rfl
                          have hcz127_3 : w110.cell? ⟨gb651, 3, none⟩ = some (.int .i64 t646) := (blk_cell BK651.out 3).trans rfl
                          have hcz127_4 : w110.cell? ⟨gb651, 4, none⟩ = some (.slice Ao22 t647.length co22) := (blk_cell BK651.out 4).trans rfl
                          have hfz127_0 := blk_frozen BK651.out 0
                          have hfz127_1 := blk_frozen BK651.out 1
                          have hfz127_2 := blk_frozen BK651.out 2
                          have hfz127_3 := blk_frozen BK651.out 3
                          have hfz127_4 := blk_frozen BK651.out 4
                          go_wp2_with (first | ((with_reducible refine gate_callee (f := 14) rfl ?_); refine goesL_ (some 81) rfl rfl Try.func14 (by kernel_rfl) rfl #[.agg #[.int .i64 t691, .int .i64 t692, .int .i64 t693, .int .i64 t694, .slice Ao116 t695.length co116], .agg #[.int .i64 t643, .int .i64 t644, .int .i64 t645, .int .i64 t646, .slice Ao22 t647.length co22]] rfl (by (try simp only [List.map_toArray, List.map_cons, List.map_nil]); first | done | rfl | (simp only [List.length_drop, List.length_take]; rfl)) ?_; (with_reducible refine (laws_eqPattern.calls kj59 t691 t692 t693 t694 _ _ t695 t643 t644 t645 t646 _ _ t647 true _ ?side1 ?side2 ?side3 ?side4 A117.out).mono ?_); (case side1 => refine (Kd.R_reads' (e := 2) (base := w.heap.size) (ok := fun k_ => ((((True ∧ some k_ ≠ (.slice Ao22 t647.length co22 : Value).ownBlock) ∧ some k_ ≠ (.slice Ao29 t679.length co29 : Value).ownBlock) ∧ some k_ ≠ (.slice Ao36 t664.length co36 : Value).ownBlock) ∧ some k_ ≠ (.slice Ao108 t688.length co108 : Value).ownBlock)) (n := t695.length) (c := co116) ?_).2.2; exact (by (with_reducible repeat (first | apply Kd.R_alloc | apply Kd.R_drewN | apply Kd.R_drew)); exact (Kd.R_mono (Kd.R_far (p := ⟨gb699, 4, none⟩) (Kd.R_far (p := ⟨gb699, 3, none⟩) (Kd.R_far (p := ⟨gb699, 2, none⟩) (Kd.R_far (p := ⟨gb699, 1, none⟩) (Kd.R_far (p := ⟨gb699, 0, none⟩) (Kd.R_types HO697.out BK699.out (by decide)) (fun _ hk => hk.2) (.int .i64 t691)) (fun _ hk => hk.2) (.int .i64 t692)) (fun _ hk => hk.2) (.int .i64 t693)) (fun _ hk => hk.2) (.int .i64 t694)) (fun _ hk => hk.2) (.slice Ao116 t695.length co116)) (fun _ h_ => h_.1)))); (case side2 => exact (Kd.R_reads' HO697.out).2.1); (case side3 => refine (Kd.R_reads' (e := 2) (base := w.heap.size) (ok := fun k_ => (((some k_ ≠ (.slice Ao29 t679.length co29 : Value).ownBlock ∧ some k_ ≠ (.slice Ao36 t664.length co36 : Value).ownBlock) ∧ some k_ ≠ (.slice Ao108 t688.length co108 : Value).ownBlock) ∧ some k_ ≠ (.slice Ao116 t695.length co116 : Value).ownBlock)) (n := t647.length) (c := co22) ?_).2.2; exact (by (with_reducible repeat (first | apply Kd.R_alloc | apply Kd.R_drewN | apply Kd.R_drew)); exact (Kd.R_mono (Kd.R_far (p := ⟨gb699, 4, none⟩) (Kd.R_far (p := ⟨gb699, 3, none⟩) (Kd.R_far (p := ⟨gb699, 2, none⟩) (Kd.R_far (p := ⟨gb699, 1, none⟩) (Kd.R_far (p := ⟨gb699, 0, none⟩) (Kd.R_types HO_652004.out BK699.out (by decide)) (fun _ hk => hk.2) (.int .i64 t691)) (fun _ hk => hk.2) (.int .i64 t692)) (fun _ hk => hk.2) (.int .i64 t693)) (fun _ hk => hk.2) (.int .i64 t694)) (fun _ hk => hk.2) (.slice Ao116 t695.length co116)) (fun _ h_ => h_.1)))); (case side4 => exact (Kd.R_reads' HO_652004.out).2.1); rintro e w128 ⟨rfl, hb⟩; refine ⟨_, rfl, ?_⟩; have n0_ := Aside0.mk (Kd.R_below (by (with_reducible repeat (first | apply Kd.R_alloc | apply Kd.R_drewN | apply Kd.R_drew)); exact (Kd.R_mono (Kd.R_far (p := ⟨gb699, 4, none⟩) (Kd.R_far (p := ⟨gb699, 3, none⟩) (Kd.R_far (p := ⟨gb699, 2, none⟩) (Kd.R_far (p := ⟨gb699, 1, none⟩) (Kd.R_far (p := ⟨gb699, 0, none⟩) (Kd.R_types HO_652004.out BK699.out (by decide)) (fun _ hk => hk.2) (.int .i64 t691)) (fun _ hk => hk.2) (.int .i64 t692)) (fun _ hk => hk.2) (.int .i64 t693)) (fun _ hk => hk.2) (.int .i64 t694)) (fun _ hk => hk.2) (.slice Ao116 t695.length co116)) (fun _ h_ => h_.1))) hb); have n1_ := Aside0.mk (Kd.R_below (by (with_reducible repeat (first | apply Kd.R_alloc | apply Kd.R_drewN | apply Kd.R_drew)); exact (Kd.R_mono (Kd.R_far (p := ⟨gb699, 4, none⟩) (Kd.R_far (p := ⟨gb699, 3, none⟩) (Kd.R_far (p := ⟨gb699, 2, none⟩) (Kd.R_far (p := ⟨gb699, 1, none⟩) (Kd.R_far (p := ⟨gb699, 0, none⟩) (Kd.R_types HO_660004.out BK699.out (by decide)) (fun _ hk => hk.2) (.int .i64 t691)) (fun _ hk => hk.2) (.int .i64 t692)) (fun _ hk => hk.2) (.int .i64 t693)) (fun _ hk => hk.2) (.int .i64 t694)) (fun _ hk => hk.2) (.slice Ao116 t695.length co116)) (fun _ h_ => h_.1))) hb); have n2_ := Aside0.mk (Kd.R_below (by (with_reducible repeat (first | apply Kd.R_alloc | apply Kd.R_drewN | apply Kd.R_drew)); exact (Kd.R_mono (Kd.R_far (p := ⟨gb699, 4, none⟩) (Kd.R_far (p := ⟨gb699, 3, none⟩) (Kd.R_far (p := ⟨gb699, 2, none⟩) (Kd.R_far (p := ⟨gb699, 1, none⟩) (Kd.R_far (p := ⟨gb699, 0, none⟩) (Kd.R_types HO_669004.out BK699.out (by decide)) (fun _ hk => hk.2) (.int .i64 t691)) (fun _ hk => hk.2) (.int .i64 t692)) (fun _ hk => hk.2) (.int .i64 t693)) (fun _ hk => hk.2) (.int .i64 t694)) (fun _ hk => hk.2) (.slice Ao116 t695.length co116)) (fun _ h_ => h_.1))) hb); have n3_ := Aside0.mk (Kd.R_below (by (with_reducible repeat (first | apply Kd.R_alloc | apply Kd.R_drewN | apply Kd.R_drew)); exact (Kd.R_mono (Kd.R_far (p := ⟨gb699, 4, none⟩) (Kd.R_far (p := ⟨gb699, 3, none⟩) (Kd.R_far (p := ⟨gb699, 2, none⟩) (Kd.R_far (p := ⟨gb699, 1, none⟩) (Kd.R_far (p := ⟨gb699, 0, none⟩) (Kd.R_types HO690.out BK699.out (by decide)) (fun _ hk => hk.2) (.int .i64 t691)) (fun _ hk => hk.2) (.int .i64 t692)) (fun _ hk => hk.2) (.int .i64 t693)) (fun _ hk => hk.2) (.int .i64 t694)) (fun _ hk => hk.2) (.slice Ao116 t695.length co116)) (fun _ h_ => h_.1))) hb); have n4_ := Aside0.mk (Kd.R_below (by (with_reducible repeat (first | apply Kd.R_alloc | apply Kd.R_drewN | apply Kd.R_drew)); exact (Kd.R_mono (Kd.R_far (p := ⟨gb699, 4, none⟩) (Kd.R_far (p := ⟨gb699, 3, none⟩) (Kd.R_far (p := ⟨gb699, 2, none⟩) (Kd.R_far (p := ⟨gb699, 1, none⟩) (Kd.R_far (p := ⟨gb699, 0, none⟩) (Kd.R_types HO697.out BK699.out (by decide)) (fun _ hk => hk.2) (.int .i64 t691)) (fun _ hk => hk.2) (.int .i64 t692)) (fun _ hk => hk.2) (.int .i64 t693)) (fun _ hk => hk.2) (.int .i64 t694)) (fun _ hk => hk.2) (.slice Ao116 t695.length co116)) (fun _ h_ => h_.1))) hb); have n5_ := Aside0.mk (blk_below (g := gb634) (o := .cells #[.int .i64 a0_0, .int .i64 a0_1, .int .i64 a0_2, .int .i64 a0_3, .slice A0_4 l0_4.length c0_4] 26 (0, 0)) (by (with_reducible repeat (first | refine blk_drewN ?_ _ | refine blk_drew ?_ | refine blk_alloc ?_ _)); refine blk_far ?_ NB634_699.out _; (with_reducible repeat (first | refine blk_drewN ?_ _ | refine blk_drew ?_ | refine blk_alloc ?_ _)); refine blk_far ?_ NB634_699.out _; (with_reducible repeat (first | refine blk_drewN ?_ _ | refine blk_drew ?_ | refine blk_alloc ?_ _)); refine blk_far ?_ NB634_699.out _; (with_reducible repeat (first | refine blk_drewN ?_ _ | refine blk_drew ?_ | refine blk_alloc ?_ _)); refine blk_far ?_ NB634_699.out _; (with_reducible repeat (first | refine blk_drewN ?_ _ | refine blk_drew ?_ | refine blk_alloc ?_ _)); refine blk_far ?_ NB634_699.out _; (with_reducible repeat (first | refine blk_drewN ?_ _ | refine blk_drew ?_ | refine blk_alloc ?_ _)); exact BK634.out) hb); have n6_ := Aside0.mk (blk_below (g := gb651) (o := .cells #[.int .i64 t643, .int .i64 t644, .int .i64 t645, .int .i64 t646, .slice Ao22 t647.length co22] 31 (0, 0)) (by (with_reducible repeat (first | refine blk_drewN ?_ _ | refine blk_drew ?_ | refine blk_alloc ?_ _)); refine blk_far ?_ NB651_699.out _; (with_reducible repeat (first | refine blk_drewN ?_ _ | refine blk_drew ?_ | refine blk_alloc ?_ _)); refine blk_far ?_ NB651_699.out _; (with_reducible repeat (first | refine blk_drewN ?_ _ | refine blk_drew ?_ | refine blk_alloc ?_ _)); refine blk_far ?_ NB651_699.out _; (with_reducible repeat (first | refine blk_drewN ?_ _ | refine blk_drew ?_ | refine blk_alloc ?_ _)); refine blk_far ?_ NB651_699.out _; (with_reducible repeat (first | refine blk_drewN ?_ _ | refine blk_drew ?_ | refine blk_alloc ?_ _)); refine blk_far ?_ NB651_699.out _; (with_reducible repeat (first | refine blk_drewN ?_ _ | refine blk_drew ?_ | refine blk_alloc ?_ _)); exact BK651.out) hb); have n7_ := Aside0.mk (blk_below (g := gb659) (o := .cells #[.int .i64 t652, .int .i64 t653, .int .i64 t654, .int .i64 t655, .slice Ao29 t679.length co29] 31 (0, 0)) (by (with_reducible repeat (first | refine blk_drewN ?_ _ | refine blk_drew ?_ | refine blk_alloc ?_ _)); refine blk_far ?_ NB659_699.out _; (with_reducible repeat (first | refine blk_drewN ?_ _ | refine blk_drew ?_ | refine blk_alloc ?_ _)); refine blk_far ?_ NB659_699.out _; (with_reducible repeat (first | refine blk_drewN ?_ _ | refine blk_drew ?_ | refine blk_alloc ?_ _)); refine blk_far ?_ NB659_699.out _; (with_reducible repeat (first | refine blk_drewN ?_ _ | refine blk_drew ?_ | refine blk_alloc ?_ _)); refine blk_far ?_ NB659_699.out _; (with_reducible repeat (first | refine blk_drewN ?_ _ | refine blk_drew ?_ | refine blk_alloc ?_ _)); refine blk_far ?_ NB659_699.out _; (with_reducible repeat (first | refine blk_drewN ?_ _ | refine blk_drew ?_ | refine blk_alloc ?_ _)); exact BK659.out) hb); have n8_ := Aside0.mk (blk_below (g := gb668) (o := .cells #[.int .i64 t660, .int .i64 t661, .int .i64 t662, .int .i64 t663, .slice Ao36 t664.length co36] 31 (0, 0)) (by (with_reducible repeat (first | refine blk_drewN ?_ _ | refine blk_drew ?_ | refine blk_alloc ?_ _)); refine blk_far ?_ NB668_699.out _; (with_reducible repeat (first | refine blk_drewN ?_ _ | refine blk_drew ?_ | refine blk_alloc ?_ _)); refine blk_far ?_ NB668_699.out _; (with_reducible repeat (first | refine blk_drewN ?_ _ | refine blk_drew ?_ | refine blk_alloc ?_ _)); refine blk_far ?_ NB668_699.out _; (with_reducible repeat (first | refine blk_drewN ?_ _ | refine blk_drew ?_ | refine blk_alloc ?_ _)); refine blk_far ?_ NB668_699.out _; (with_reducible repeat (first | refine blk_drewN ?_ _ | refine blk_drew ?_ | refine blk_alloc ?_ _)); refine blk_far ?_ NB668_699.out _; (with_reducible repeat (first | refine blk_drewN ?_ _ | refine blk_drew ?_ | refine blk_alloc ?_ _)); exact BK668.out) hb); have n9_ := Aside0.mk (blk_below (g := gb699) (o := .cells #[.int .i64 t691, .int .i64 t692, .int .i64 t693, .int .i64 t694, .slice Ao116 t695.length co116] 31 (0, 0)) (by (with_reducible repeat (first | refine blk_drewN ?_ _ | refine blk_drew ?_ | refine blk_alloc ?_ _)); refine blk_put (cs := #[.int .i64 t691, .int .i64 t692, .int .i64 t693, .int .i64 t694, .slice none 0 0]) ?_ 4 _ rfl; (with_reducible repeat (first | refine blk_drewN ?_ _ | refine blk_drew ?_ | refine blk_alloc ?_ _)); refine blk_put (cs := #[.int .i64 t691, .int .i64 t692, .int .i64 t693, .int .i64 0, .slice none 0 0]) ?_ 3 _ rfl; (with_reducible repeat (first | refine blk_drewN ?_ _ | refine blk_drew ?_ | refine blk_alloc ?_ _)); refine blk_put (cs := #[.int .i64 t691, .int .i64 t692, .int .i64 0, .int .i64 0, .slice none 0 0]) ?_ 2 _ rfl; (with_reducible repeat (first | refine blk_drewN ?_ _ | refine blk_drew ?_ | refine blk_alloc ?_ _)); refine blk_put (cs := #[.int .i64 t691, .int .i64 0, .int .i64 0, .int .i64 0, .slice none 0 0]) ?_ 1 _ rfl; (with_reducible repeat (first | refine blk_drewN ?_ _ | refine blk_drew ?_ | refine blk_alloc ?_ _)); refine blk_put (cs := #[.int .i64 0, .int .i64 0, .int .i64 0, .int .i64 0, .slice none 0 0]) ?_ 0 _ rfl; (with_reducible repeat (first | refine blk_drewN ?_ _ | refine blk_drew ?_ | refine blk_alloc ?_ _)); exact BK699.out) hb); have n10_ := Aside0.mk (below_step (by repeat (first | (with_reducible first | exact HB.out | apply below_alloc | apply pw_below_drewN | apply below_drew1 | refine below_set ?_ GE634.out | refine below_set ?_ GE651.out | refine below_set ?_ GE659.out | refine below_set ?_ GE668.out | refine below_set ?_ GE699.out) | exact HB.out)) hb); clear HO_652004; clear HO_660004; clear HO_669004; clear HO690; clear HO697; clear BK634; clear BK651; clear BK659; clear BK668; clear BK699; clear HB; have HO_652004 := n0_; have HO_660004 := n1_; have HO_669004 := n2_; have HO690 := n3_; have HO697 := n4_; have BK634 := n5_; have BK651 := n6_; have BK659 := n7_; have BK668 := n8_; have BK699 := n9_; have HB := n10_; clear n0_ n1_ n2_ n3_ n4_ n5_ n6_ n7_ n8_ n9_ n10_; (try clear hb); (try clear hb2); (try clear hk); (try clear hi)))
                          go_meet
                          case rel => exact ⟨_, ((t698 != t650)), (by first | rfl | (simp; done) | (simp [*]; done)), H', ⟨by have := HJ10.out; have := HJ59.out; first | omega | exact Nat.le_refl _⟩, ⟨by (try simp only [hl660004_59]); (with_reducible repeat (first | apply Kd.R_alloc | apply Kd.R_drewN | apply Kd.R_drew)); exact Kd.R_mono HO_652004.out (fun _ hk => ⟨hk.1.1.1, ⟨hk.1.1.2, hk.2⟩⟩)⟩, ⟨by (try simp only [hl660004_59]); (with_reducible repeat (first | apply Kd.R_alloc | apply Kd.R_drewN | apply Kd.R_drew)); exact Kd.R_mono HO_660004.out (fun _ hk => ⟨hk.1.1.1, ⟨hk.1.1.2, hk.2⟩⟩)⟩, ⟨by (try simp only [hl660004_59]); (with_reducible repeat (first | apply Kd.R_alloc | apply Kd.R_drewN | apply Kd.R_drew)); exact Kd.R_mono HO_669004.out (fun _ hk => ⟨hk.1.1.1, ⟨hk.1.1.2, hk.2⟩⟩)⟩, ⟨by (try simp only [hl660004_59]); (with_reducible repeat (first | apply Kd.R_alloc | apply Kd.R_drewN | apply Kd.R_drew)); exact Kd.R_mono HO697.out (fun _ hk => ⟨hk.1.1.1.2, ⟨hk.1.1.2, hk.1.2⟩⟩)⟩, ⟨by (try simp only [hl660004_59]); (with_reducible repeat (first | refine blk_drewN ?_ _ | refine blk_drew ?_ | refine blk_alloc ?_ _)); exact BK634.out⟩, ⟨by (try simp only [hl660004_59]); (with_reducible repeat (first | refine blk_drewN ?_ _ | refine blk_drew ?_ | refine blk_alloc ?_ _)); exact BK651.out⟩, ⟨by (try simp only [hl660004_59]); (with_reducible repeat (first | refine blk_drewN ?_ _ | refine blk_drew ?_ | refine blk_alloc ?_ _)); exact BK659.out⟩, ⟨by (try simp only [hl660004_59]); (with_reducible repeat (first | refine blk_drewN ?_ _ | refine blk_drew ?_ | refine blk_alloc ?_ _)); exact BK668.out⟩, ⟨by (try simp only [hl660004_59]); (with_reducible repeat (first | refine blk_drewN ?_ _ | refine blk_drew ?_ | refine blk_alloc ?_ _)); exact BK699.out⟩, ⟨by repeat (first | (with_reducible first | exact HB.out | apply below_alloc | apply pw_below_drewN | apply below_drew1 | refine below_set ?_ GE634.out | refine below_set ?_ GE651.out | refine below_set ?_ GE659.out | refine below_set ?_ GE668.out | refine below_set ?_ GE699.out) | exact HB.out)⟩⟩
                        · replace c118 := Bool.eq_false_iff.mpr c118
                          subst c118
                          have H1 : (laws_FnExactFirstCome.j2 kj59 t681 true t660 t661 t662 t663 t682) = some true := by rw [if_neg (show ¬ (false = true) by decide)] at H; first | done | exact H
                          clear H
                          have H := H1
                          clear H1
                          have H' := Aside0.mk H
                          clear H
                          have hnb129 := NB699_634.out
                          have hnc129 := NB634_699.out
                          have hnb130 := NB699_651.out
                          have hnc130 := NB651_699.out
                          have hnb131 := NB699_659.out
                          have hnc131 := NB659_699.out
                          have hnb132 := NB699_668.out
                          have hnc132 := NB668_699.out
                          have hcz133_0 : w110.cell? ⟨gb699, 0, none⟩ = some (.int .i64 0) := (blk_cell BK699.out 0).trans rfl
                          have hcz133_1 : w110.cell? ⟨gb699, 1, none⟩ = some (.int .i64 0) := (blk_cell BK699.out 1).trans rfl
                          have hcz133_2 : w110.cell? ⟨gb699, 2, none⟩ = some (.int .i64 0) := (blk_cell BK699.out 2).trans rfl
                          have hcz133_3 : w110.cell? ⟨gb699, 3, none⟩ = some (.int .i64 0) := (blk_cell BK699.out 3).trans rfl
                          have hcz133_4 : w110.cell? ⟨gb699, 4, none⟩ = some (.slice none 0 0) := (blk_cell BK699.out 4).trans rfl
                          have hfz133_0 := blk_frozen BK699.out 0
                          have hfz133_1 := blk_frozen BK699.out 1
                          have hfz133_2 := blk_frozen BK699.out 2
                          have hfz133_3 := blk_frozen BK699.out 3
                          have hfz133_4 := blk_frozen BK699.out 4
                          have hnb134 := NB651_634.out
                          have hnc134 := NB634_651.out
                          have hnb135 := NB651_659.out
                          have hnc135 := NB659_651.out
                          have hnb136 := NB651_668.out
                          have hnc136 := NB668_651.out
                          have hcz137_0 : w110.cell? ⟨gb651, 0, none⟩ = some (.int .i64 t643) := (blk_cell BK651.out 0).trans rfl
                          have hcz137_1 : w110.cell? ⟨gb651, 1, none⟩ = some (.int .i64 t644) := (blk_cell BK651.out 1).trans rfl
                          have hcz137_2 : w110.cell? ⟨gb651, 2, none⟩ = some (.int .i64 t645) := (blk_cell BK651.out 2).trans rfl
                          have hcz137_3 : w110.cell? ⟨gb651, 3, none⟩ = some (.int .i64 t646) := (blk_cell BK651.out 3).trans rfl
                          have hcz137_4 : w110.cell? ⟨gb651, 4, none⟩ = some (.slice Ao22 t647.length co22) := (blk_cell BK651.out 4).trans rfl
                          have hfz137_0 := blk_frozen BK651.out 0
                          have hfz137_1 := blk_frozen BK651.out 1
                          have hfz137_2 := blk_frozen BK651.out 2
                          have hfz137_3 := blk_frozen BK651.out 3
                          have hfz137_4 := blk_frozen BK651.out 4
                          go_wp2_with (first | ((with_reducible refine gate_callee (f := 14) rfl ?_); refine goesL_ (some 81) rfl rfl Try.func14 (by kernel_rfl) rfl #[.agg #[.int .i64 t691, .int .i64 t692, .int .i64 t693, .int .i64 t694, .slice Ao116 t695.length co116], .agg #[.int .i64 t643, .int .i64 t644, .int .i64 t645, .int .i64 t646, .slice Ao22 t647.length co22]] rfl (by (try simp only [List.map_toArray, List.map_cons, List.map_nil]); first | done | rfl | (simp only [List.length_drop, List.length_take]; rfl)) ?_; (with_reducible refine (laws_eqPattern.calls kj59 t691 t692 t693 t694 _ _ t695 t643 t644 t645 t646 _ _ t647 false _ ?side1 ?side2 ?side3 ?side4 A117.out).mono ?_); (case side1 => refine (Kd.R_reads' (e := 2) (base := w.heap.size) (ok := fun k_ => ((((True ∧ some k_ ≠ (.slice Ao22 t647.length co22 : Value).ownBlock) ∧ some k_ ≠ (.slice Ao29 t679.length co29 : Value).ownBlock) ∧ some k_ ≠ (.slice Ao36 t664.length co36 : Value).ownBlock) ∧ some k_ ≠ (.slice Ao108 t688.length co108 : Value).ownBlock)) (n := t695.length) (c := co116) ?_).2.2; exact (by (with_reducible repeat (first | apply Kd.R_alloc | apply Kd.R_drewN | apply Kd.R_drew)); exact (Kd.R_mono (Kd.R_far (p := ⟨gb699, 4, none⟩) (Kd.R_far (p := ⟨gb699, 3, none⟩) (Kd.R_far (p := ⟨gb699, 2, none⟩) (Kd.R_far (p := ⟨gb699, 1, none⟩) (Kd.R_far (p := ⟨gb699, 0, none⟩) (Kd.R_types HO697.out BK699.out (by decide)) (fun _ hk => hk.2) (.int .i64 t691)) (fun _ hk => hk.2) (.int .i64 t692)) (fun _ hk => hk.2) (.int .i64 t693)) (fun _ hk => hk.2) (.int .i64 t694)) (fun _ hk => hk.2) (.slice Ao116 t695.length co116)) (fun _ h_ => h_.1)))); (case side2 => exact (Kd.R_reads' HO697.out).2.1); (case side3 => refine (Kd.R_reads' (e := 2) (base := w.heap.size) (ok := fun k_ => (((some k_ ≠ (.slice Ao29 t679.length co29 : Value).ownBlock ∧ some k_ ≠ (.slice Ao36 t664.length co36 : Value).ownBlock) ∧ some k_ ≠ (.slice Ao108 t688.length co108 : Value).ownBlock) ∧ some k_ ≠ (.slice Ao116 t695.length co116 : Value).ownBlock)) (n := t647.length) (c := co22) ?_).2.2; exact (by (with_reducible repeat (first | apply Kd.R_alloc | apply Kd.R_drewN | apply Kd.R_drew)); exact (Kd.R_mono (Kd.R_far (p := ⟨gb699, 4, none⟩) (Kd.R_far (p := ⟨gb699, 3, none⟩) (Kd.R_far (p := ⟨gb699, 2, none⟩) (Kd.R_far (p := ⟨gb699, 1, none⟩) (Kd.R_far (p := ⟨gb699, 0, none⟩) (Kd.R_types HO_652004.out BK699.out (by decide)) (fun _ hk => hk.2) (.int .i64 t691)) (fun _ hk => hk.2) (.int .i64 t692)) (fun _ hk => hk.2) (.int .i64 t693)) (fun _ hk => hk.2) (.int .i64 t694)) (fun _ hk => hk.2) (.slice Ao116 t695.length co116)) (fun _ h_ => h_.1)))); (case side4 => exact (Kd.R_reads' HO_652004.out).2.1); rintro e w138 ⟨rfl, hb⟩; refine ⟨_, rfl, ?_⟩; have n0_ := Aside0.mk (Kd.R_below (by (with_reducible repeat (first | apply Kd.R_alloc | apply Kd.R_drewN | apply Kd.R_drew)); exact (Kd.R_mono (Kd.R_far (p := ⟨gb699, 4, none⟩) (Kd.R_far (p := ⟨gb699, 3, none⟩) (Kd.R_far (p := ⟨gb699, 2, none⟩) (Kd.R_far (p := ⟨gb699, 1, none⟩) (Kd.R_far (p := ⟨gb699, 0, none⟩) (Kd.R_types HO_652004.out BK699.out (by decide)) (fun _ hk => hk.2) (.int .i64 t691)) (fun _ hk => hk.2) (.int .i64 t692)) (fun _ hk => hk.2) (.int .i64 t693)) (fun _ hk => hk.2) (.int .i64 t694)) (fun _ hk => hk.2) (.slice Ao116 t695.length co116)) (fun _ h_ => h_.1))) hb); have n1_ := Aside0.mk (Kd.R_below (by (with_reducible repeat (first | apply Kd.R_alloc | apply Kd.R_drewN | apply Kd.R_drew)); exact (Kd.R_mono (Kd.R_far (p := ⟨gb699, 4, none⟩) (Kd.R_far (p := ⟨gb699, 3, none⟩) (Kd.R_far (p := ⟨gb699, 2, none⟩) (Kd.R_far (p := ⟨gb699, 1, none⟩) (Kd.R_far (p := ⟨gb699, 0, none⟩) (Kd.R_types HO_660004.out BK699.out (by decide)) (fun _ hk => hk.2) (.int .i64 t691)) (fun _ hk => hk.2) (.int .i64 t692)) (fun _ hk => hk.2) (.int .i64 t693)) (fun _ hk => hk.2) (.int .i64 t694)) (fun _ hk => hk.2) (.slice Ao116 t695.length co116)) (fun _ h_ => h_.1))) hb); have n2_ := Aside0.mk (Kd.R_below (by (with_reducible repeat (first | apply Kd.R_alloc | apply Kd.R_drewN | apply Kd.R_drew)); exact (Kd.R_mono (Kd.R_far (p := ⟨gb699, 4, none⟩) (Kd.R_far (p := ⟨gb699, 3, none⟩) (Kd.R_far (p := ⟨gb699, 2, none⟩) (Kd.R_far (p := ⟨gb699, 1, none⟩) (Kd.R_far (p := ⟨gb699, 0, none⟩) (Kd.R_types HO_669004.out BK699.out (by decide)) (fun _ hk => hk.2) (.int .i64 t691)) (fun _ hk => hk.2) (.int .i64 t692)) (fun _ hk => hk.2) (.int .i64 t693)) (fun _ hk => hk.2) (.int .i64 t694)) (fun _ hk => hk.2) (.slice Ao116 t695.length co116)) (fun _ h_ => h_.1))) hb); have n3_ := Aside0.mk (Kd.R_below (by (with_reducible repeat (first | apply Kd.R_alloc | apply Kd.R_drewN | apply Kd.R_drew)); exact (Kd.R_mono (Kd.R_far (p := ⟨gb699, 4, none⟩) (Kd.R_far (p := ⟨gb699, 3, none⟩) (Kd.R_far (p := ⟨gb699, 2, none⟩) (Kd.R_far (p := ⟨gb699, 1, none⟩) (Kd.R_far (p := ⟨gb699, 0, none⟩) (Kd.R_types HO690.out BK699.out (by decide)) (fun _ hk => hk.2) (.int .i64 t691)) (fun _ hk => hk.2) (.int .i64 t692)) (fun _ hk => hk.2) (.int .i64 t693)) (fun _ hk => hk.2) (.int .i64 t694)) (fun _ hk => hk.2) (.slice Ao116 t695.length co116)) (fun _ h_ => h_.1))) hb); have n4_ := Aside0.mk (Kd.R_below (by (with_reducible repeat (first | apply Kd.R_alloc | apply Kd.R_drewN | apply Kd.R_drew)); exact (Kd.R_mono (Kd.R_far (p := ⟨gb699, 4, none⟩) (Kd.R_far (p := ⟨gb699, 3, none⟩) (Kd.R_far (p := ⟨gb699, 2, none⟩) (Kd.R_far (p := ⟨gb699, 1, none⟩) (Kd.R_far (p := ⟨gb699, 0, none⟩) (Kd.R_types HO697.out BK699.out (by decide)) (fun _ hk => hk.2) (.int .i64 t691)) (fun _ hk => hk.2) (.int .i64 t692)) (fun _ hk => hk.2) (.int .i64 t693)) (fun _ hk => hk.2) (.int .i64 t694)) (fun _ hk => hk.2) (.slice Ao116 t695.length co116)) (fun _ h_ => h_.1))) hb); have n5_ := Aside0.mk (blk_below (g := gb634) (o := .cells #[.int .i64 a0_0, .int .i64 a0_1, .int .i64 a0_2, .int .i64 a0_3, .slice A0_4 l0_4.length c0_4] 26 (0, 0)) (by (with_reducible repeat (first | refine blk_drewN ?_ _ | refine blk_drew ?_ | refine blk_alloc ?_ _)); refine blk_far ?_ NB634_699.out _; (with_reducible repeat (first | refine blk_drewN ?_ _ | refine blk_drew ?_ | refine blk_alloc ?_ _)); refine blk_far ?_ NB634_699.out _; (with_reducible repeat (first | refine blk_drewN ?_ _ | refine blk_drew ?_ | refine blk_alloc ?_ _)); refine blk_far ?_ NB634_699.out _; (with_reducible repeat (first | refine blk_drewN ?_ _ | refine blk_drew ?_ | refine blk_alloc ?_ _)); refine blk_far ?_ NB634_699.out _; (with_reducible repeat (first | refine blk_drewN ?_ _ | refine blk_drew ?_ | refine blk_alloc ?_ _)); refine blk_far ?_ NB634_699.out _; (with_reducible repeat (first | refine blk_drewN ?_ _ | refine blk_drew ?_ | refine blk_alloc ?_ _)); exact BK634.out) hb); have n6_ := Aside0.mk (blk_below (g := gb651) (o := .cells #[.int .i64 t643, .int .i64 t644, .int .i64 t645, .int .i64 t646, .slice Ao22 t647.length co22] 31 (0, 0)) (by (with_reducible repeat (first | refine blk_drewN ?_ _ | refine blk_drew ?_ | refine blk_alloc ?_ _)); refine blk_far ?_ NB651_699.out _; (with_reducible repeat (first | refine blk_drewN ?_ _ | refine blk_drew ?_ | refine blk_alloc ?_ _)); refine blk_far ?_ NB651_699.out _; (with_reducible repeat (first | refine blk_drewN ?_ _ | refine blk_drew ?_ | refine blk_alloc ?_ _)); refine blk_far ?_ NB651_699.out _; (with_reducible repeat (first | refine blk_drewN ?_ _ | refine blk_drew ?_ | refine blk_alloc ?_ _)); refine blk_far ?_ NB651_699.out _; (with_reducible repeat (first | refine blk_drewN ?_ _ | refine blk_drew ?_ | refine blk_alloc ?_ _)); refine blk_far ?_ NB651_699.out _; (with_reducible repeat (first | refine blk_drewN ?_ _ | refine blk_drew ?_ | refine blk_alloc ?_ _)); exact BK651.out) hb); have n7_ := Aside0.mk (blk_below (g := gb659) (o := .cells #[.int .i64 t652, .int .i64 t653, .int .i64 t654, .int .i64 t655, .slice Ao29 t679.length co29] 31 (0, 0)) (by (with_reducible repeat (first | refine blk_drewN ?_ _ | refine blk_drew ?_ | refine blk_alloc ?_ _)); refine blk_far ?_ NB659_699.out _; (with_reducible repeat (first | refine blk_drewN ?_ _ | refine blk_drew ?_ | refine blk_alloc ?_ _)); refine blk_far ?_ NB659_699.out _; (with_reducible repeat (first | refine blk_drewN ?_ _ | refine blk_drew ?_ | refine blk_alloc ?_ _)); refine blk_far ?_ NB659_699.out _; (with_reducible repeat (first | refine blk_drewN ?_ _ | refine blk_drew ?_ | refine blk_alloc ?_ _)); refine blk_far ?_ NB659_699.out _; (with_reducible repeat (first | refine blk_drewN ?_ _ | refine blk_drew ?_ | refine blk_alloc ?_ _)); refine blk_far ?_ NB659_699.out _; (with_reducible repeat (first | refine blk_drewN ?_ _ | refine blk_drew ?_ | refine blk_alloc ?_ _)); exact BK659.out) hb); have n8_ := Aside0.mk (blk_below (g := gb668) (o := .cells #[.int .i64 t660, .int .i64 t661, .int .i64 t662, .int .i64 t663, .slice Ao36 t664.length co36] 31 (0, 0)) (by (with_reducible repeat (first | refine blk_drewN ?_ _ | refine blk_drew ?_ | refine blk_alloc ?_ _)); refine blk_far ?_ NB668_699.out _; (with_reducible repeat (first | refine blk_drewN ?_ _ | refine blk_drew ?_ | refine blk_alloc ?_ _)); refine blk_far ?_ NB668_699.out _; (with_reducible repeat (first | refine blk_drewN ?_ _ | refine blk_drew ?_ | refine blk_alloc ?_ _)); refine blk_far ?_ NB668_699.out _; (with_reducible repeat (first | refine blk_drewN ?_ _ | refine blk_drew ?_ | refine blk_alloc ?_ _)); refine blk_far ?_ NB668_699.out _; (with_reducible repeat (first | refine blk_drewN ?_ _ | refine blk_drew ?_ | refine blk_alloc ?_ _)); refine blk_far ?_ NB668_699.out _; (with_reducible repeat (first | refine blk_drewN ?_ _ | refine blk_drew ?_ | refine blk_alloc ?_ _)); exact BK668.out) hb); have n9_ := Aside0.mk (blk_below (g := gb699) (o := .cells #[.int .i64 t691, .int .i64 t692, .int .i64 t693, .int .i64 t694, .slice Ao116 t695.length co116] 31 (0, 0)) (by (with_reducible repeat (first | refine blk_drewN ?_ _ | refine blk_drew ?_ | refine blk_alloc ?_ _)); refine blk_put (cs := #[.int .i64 t691, .int .i64 t692, .int .i64 t693, .int .i64 t694, .slice none 0 0]) ?_ 4 _ rfl; (with_reducible repeat (first | refine blk_drewN ?_ _ | refine blk_drew ?_ | refine blk_alloc ?_ _)); refine blk_put (cs := #[.int .i64 t691, .int .i64 t692, .int .i64 t693, .int .i64 0, .slice none 0 0]) ?_ 3 _ rfl; (with_reducible repeat (first | refine blk_drewN ?_ _ | refine blk_drew ?_ | refine blk_alloc ?_ _)); refine blk_put (cs := #[.int .i64 t691, .int .i64 t692, .int .i64 0, .int .i64 0, .slice none 0 0]) ?_ 2 _ rfl; (with_reducible repeat (first | refine blk_drewN ?_ _ | refine blk_drew ?_ | refine blk_alloc ?_ _)); refine blk_put (cs := #[.int .i64 t691, .int .i64 0, .int .i64 0, .int .i64 0, .slice none 0 0]) ?_ 1 _ rfl; (with_reducible repeat (first | refine blk_drewN ?_ _ | refine blk_drew ?_ | refine blk_alloc ?_ _)); refine blk_put (cs := #[.int .i64 0, .int .i64 0, .int .i64 0, .int .i64 0, .slice none 0 0]) ?_ 0 _ rfl; (with_reducible repeat (first | refine blk_drewN ?_ _ | refine blk_drew ?_ | refine blk_alloc ?_ _)); exact BK699.out) hb); have n10_ := Aside0.mk (below_step (by repeat (first | (with_reducible first | exact HB.out | apply below_alloc | apply pw_below_drewN | apply below_drew1 | refine below_set ?_ GE634.out | refine below_set ?_ GE651.out | refine below_set ?_ GE659.out | refine below_set ?_ GE668.out | refine below_set ?_ GE699.out) | exact HB.out)) hb); clear HO_652004; clear HO_660004; clear HO_669004; clear HO690; clear HO697; clear BK634; clear BK651; clear BK659; clear BK668; clear BK699; clear HB; have HO_652004 := n0_; have HO_660004 := n1_; have HO_669004 := n2_; have HO690 := n3_; have HO697 := n4_; have BK634 := n5_; have BK651 := n6_; have BK659 := n7_; have BK668 := n8_; have BK699 := n9_; have HB := n10_; clear n0_ n1_ n2_ n3_ n4_ n5_ n6_ n7_ n8_ n9_ n10_; (try clear hb); (try clear hb2); (try clear hk); (try clear hi)))
                          go_meet
                          case rel => exact ⟨_, (true), (by first | rfl | (simp; done) | (simp [*]; done)), H', ⟨by have := HJ10.out; have := HJ59.out; first | omega | exact Nat.le_refl _⟩, ⟨by (try simp only [hl660004_59]); (with_reducible repeat (first | apply Kd.R_alloc | apply Kd.R_drewN | apply Kd.R_drew)); exact Kd.R_mono HO_652004.out (fun _ hk => ⟨hk.1.1.1, ⟨hk.1.1.2, hk.2⟩⟩)⟩, ⟨by (try simp only [hl660004_59]); (with_reducible repeat (first | apply Kd.R_alloc | apply Kd.R_drewN | apply Kd.R_drew)); exact Kd.R_mono HO_660004.out (fun _ hk => ⟨hk.1.1.1, ⟨hk.1.1.2, hk.2⟩⟩)⟩, ⟨by (try simp only [hl660004_59]); (with_reducible repeat (first | apply Kd.R_alloc | apply Kd.R_drewN | apply Kd.R_drew)); exact Kd.R_mono HO_669004.out (fun _ hk => ⟨hk.1.1.1, ⟨hk.1.1.2, hk.2⟩⟩)⟩, ⟨by (try simp only [hl660004_59]); (with_reducible repeat (first | apply Kd.R_alloc | apply Kd.R_drewN | apply Kd.R_drew)); exact Kd.R_mono HO697.out (fun _ hk => ⟨hk.1.1.1.2, ⟨hk.1.1.2, hk.1.2⟩⟩)⟩, ⟨by (try simp only [hl660004_59]); (with_reducible repeat (first | refine blk_drewN ?_ _ | refine blk_drew ?_ | refine blk_alloc ?_ _)); exact BK634.out⟩, ⟨by (try simp only [hl660004_59]); (with_reducible repeat (first | refine blk_drewN ?_ _ | refine blk_drew ?_ | refine blk_alloc ?_ _)); exact BK651.out⟩, ⟨by (try simp only [hl660004_59]); (with_reducible repeat (first | refine blk_drewN ?_ _ | refine blk_drew ?_ | refine blk_alloc ?_ _)); exact BK659.out⟩, ⟨by (try simp only [hl660004_59]); (with_reducible repeat (first | refine blk_drewN ?_ _ | refine blk_drew ?_ | refine blk_alloc ?_ _)); exact BK668.out⟩, ⟨by (try simp only [hl660004_59]); (with_reducible repeat (first | refine blk_drewN ?_ _ | refine blk_drew ?_ | refine blk_alloc ?_ _)); exact BK699.out⟩, ⟨by repeat (first | (with_reducible first | exact HB.out | apply below_alloc | apply pw_below_drewN | apply below_drew1 | refine below_set ?_ GE634.out | refine below_set ?_ GE651.out | refine below_set ?_ GE659.out | refine below_set ?_ GE668.out | refine below_set ?_ GE699.out) | exact HB.out)⟩⟩
                      case rest =>
                        clear HC96
                        try clear c1
                        try clear c2
                        try clear p2
                        try clear c3
                        try clear c3b0
                        try clear c4
                        try clear c5
                        try clear c6
                        try clear c7
                        try clear c8
                        try clear c9
                        try clear c10
                        try clear c11
                        try clear c12
                        try clear c13
                        try clear c14
                        try clear c18
                        try clear c20
                        try clear c26
                        try clear c27
                        try clear c32
                        try clear c33
                        try clear c34
                        try clear c38
                        try clear c39
                        try clear c40
                        try clear c41
                        try clear c43
                        try clear c44
                        try clear c47
                        try clear c48
                        try clear c49
                        try clear c51
                        try clear c52
                        try clear c55
                        try clear c58
                        try clear c65
                        try clear c66
                        try clear c67
                        try clear c70
                        try clear c70b0
                        try clear c72
                        try clear c73
                        try clear c74
                        try clear c75
                        try clear c77
                        try clear c78
                        try clear c81
                        try clear c82
                        try clear c83
                        try clear c85
                        try clear c86
                        try clear c89
                        try clear c92
                        try clear c92b0
                        try clear c93
                        try clear c93b0
                        try clear c93b1
                        try clear c97
                        try clear c98
                        try clear c99
                        try clear c104
                        try clear c105
                        try clear c111
                        try clear c112
                        try clear c113
                        try clear c114
                        try clear c118
                        try clear c119
                        try clear c120
                        try clear c121
                        try clear c122
                        try clear c124
                        try clear c125
                        try clear c126
                        try clear c129
                        try clear c130
                        try clear c131
                        try clear c132
                        try clear c134
                        try clear c135
                        try clear c136
                        try clear hcz100_0
                        try clear hcz100_1
                        try clear hcz100_2
                        try clear hcz100_3
                        try clear hcz100_4
                        try clear hcz102_0
                        try clear hcz102_1
                        try clear hcz102_2
                        try clear hcz102_3
                        try clear hcz102_4
                        try clear hcz106_0
                        try clear hcz106_1
                        try clear hcz106_2
                        try clear hcz106_3
                        try clear hcz106_4
                        try clear hcz115_0
                        try clear hcz115_1
                        try clear hcz115_2
                        try clear hcz115_3
                        try clear hcz115_4
                        try clear hcz123_0
                        try clear hcz123_1
                        try clear hcz123_2
                        try clear hcz123_3
                        try clear hcz123_4
                        try clear hcz127_0
                        try clear hcz127_1
                        try clear hcz127_2
                        try clear hcz127_3
                        try clear hcz127_4
                        try clear hcz133_0
                        try clear hcz133_1
                        try clear hcz133_2
                        try clear hcz133_3
                        try clear hcz133_4
                        try clear hcz137_0
                        try clear hcz137_1
                        try clear hcz137_2
                        try clear hcz137_3
                        try clear hcz137_4
                        try clear hcz13_0
                        try clear hcz13_1
                        try clear hcz13_2
                        try clear hcz13_3
                        try clear hcz13_4
                        try clear hcz15_0
                        try clear hcz15_1
                        try clear hcz15_2
                        try clear hcz15_3
                        try clear hcz15_4
                        try clear hcz21_0
                        try clear hcz21_1
                        try clear hcz21_2
                        try clear hcz21_3
                        try clear hcz21_4
                        try clear hcz23_0
                        try clear hcz23_1
                        try clear hcz23_2
                        try clear hcz23_3
                        try clear hcz23_4
                        try clear hcz28_0
                        try clear hcz28_1
                        try clear hcz28_2
                        try clear hcz28_3
                        try clear hcz28_4
                        try clear hcz35_0
                        try clear hcz35_1
                        try clear hcz35_2
                        try clear hcz35_3
                        try clear hcz35_4
                        try clear hcz42_0
                        try clear hcz42_1
                        try clear hcz42_2
                        try clear hcz42_3
                        try clear hcz42_4
                        try clear hcz45_0
                        try clear hcz45_1
                        try clear hcz45_2
                        try clear hcz45_3
                        try clear hcz45_4
                        try clear hcz50_0
                        try clear hcz50_1
                        try clear hcz50_2
                        try clear hcz50_3
                        try clear hcz50_4
                        try clear hcz53_0
                        try clear hcz53_1
                        try clear hcz53_2
                        try clear hcz53_3
                        try clear hcz53_4
                        try clear hcz5_0
                        try clear hcz5_1
                        try clear hcz5_2
                        try clear hcz5_3
                        try clear hcz5_4
                        try clear hcz68_0
                        try clear hcz68_1
                        try clear hcz68_2
                        try clear hcz68_3
                        try clear hcz68_4
                        try clear hcz76_0
                        try clear hcz76_1
                        try clear hcz76_2
                        try clear hcz76_3
                        try clear hcz76_4
                        try clear hcz79_0
                        try clear hcz79_1
                        try clear hcz79_2
                        try clear hcz79_3
                        try clear hcz79_4
                        try clear hcz84_0
                        try clear hcz84_1
                        try clear hcz84_2
                        try clear hcz84_3
                        try clear hcz84_4
                        try clear hcz87_0
                        try clear hcz87_1
                        try clear hcz87_2
                        try clear hcz87_3
                        try clear hcz87_4
                        try clear hfz100_0
                        try clear hfz100_1
                        try clear hfz100_2
                        try clear hfz100_3
                        try clear hfz100_4
                        try clear hfz102_0
                        try clear hfz102_1
                        try clear hfz102_2
                        try clear hfz102_3
                        try clear hfz102_4
                        try clear hfz106_0
                        try clear hfz106_1
                        try clear hfz106_2
                        try clear hfz106_3
                        try clear hfz106_4
                        try clear hfz115_0
                        try clear hfz115_1
                        try clear hfz115_2
                        try clear hfz115_3
                        try clear hfz115_4
                        try clear hfz123_0
                        try clear hfz123_1
                        try clear hfz123_2
                        try clear hfz123_3
                        try clear hfz123_4
                        try clear hfz127_0
                        try clear hfz127_1
                        try clear hfz127_2
                        try clear hfz127_3
                        try clear hfz127_4
                        try clear hfz133_0
                        try clear hfz133_1
                        try clear hfz133_2
                        try clear hfz133_3
                        try clear hfz133_4
                        try clear hfz137_0
                        try clear hfz137_1
                        try clear hfz137_2
                        try clear hfz137_3
                        try clear hfz137_4
                        try clear hfz13_0
                        try clear hfz13_1
                        try clear hfz13_2
                        try clear hfz13_3
                        try clear hfz13_4
                        try clear hfz15_0
                        try clear hfz15_1
                        try clear hfz15_2
                        try clear hfz15_3
                        try clear hfz15_4
                        try clear hfz21_0
                        try clear hfz21_1
                        try clear hfz21_2
                        try clear hfz21_3
                        try clear hfz21_4
                        try clear hfz23_0
                        try clear hfz23_1
                        try clear hfz23_2
                        try clear hfz23_3
                        try clear hfz23_4
                        try clear hfz28_0
                        try clear hfz28_1
                        try clear hfz28_2
                        try clear hfz28_3
                        try clear hfz28_4
                        try clear hfz35_0
                        try clear hfz35_1
                        try clear hfz35_2
                        try clear hfz35_3
                        try clear hfz35_4
                        try clear hfz42_0
                        try clear hfz42_1
                        try clear hfz42_2
                        try clear hfz42_3
                        try clear hfz42_4
                        try clear hfz45_0
                        try clear hfz45_1
                        try clear hfz45_2
                        try clear hfz45_3
                        try clear hfz45_4
                        try clear hfz50_0
                        try clear hfz50_1
                        try clear hfz50_2
                        try clear hfz50_3
                        try clear hfz50_4
                        try clear hfz53_0
                        try clear hfz53_1
                        try clear hfz53_2
                        try clear hfz53_3
                        try clear hfz53_4
                        try clear hfz5_0
                        try clear hfz5_1
                        try clear hfz5_2
                        try clear hfz5_3
                        try clear hfz5_4
                        try clear hfz68_0
                        try clear hfz68_1
                        try clear hfz68_2
                        try clear hfz68_3
                        try clear hfz68_4
                        try clear hfz76_0
                        try clear hfz76_1
                        try clear hfz76_2
                        try clear hfz76_3
                        try clear hfz76_4
                        try clear hfz79_0
                        try clear hfz79_1
                        try clear hfz79_2
                        try clear hfz79_3
                        try clear hfz79_4
                        try clear hfz84_0
                        try clear hfz84_1
                        try clear hfz84_2
                        try clear hfz84_3
                        try clear hfz84_4
                        try clear hfz87_0
                        try clear hfz87_1
                        try clear hfz87_2
                        try clear hfz87_3
                        try clear hfz87_4
                        try clear p2
                        obtain ⟨kq, x87_95, rfl, HA, HJ95, HO_652004, HO_660004, HO_669004, HO_700004, BK634, BK651, BK659, BK668, BK699, HB⟩ := hcut
                        have hl669004_95 := (Kd.R_reads' HO_669004.out).1
                        rw [hl669004_95] at HO_669004
                        (try simp only [hl669004_95])
                        (try simp only [hl669004_95] at BK634)
                        (try simp only [hl669004_95] at BK651)
                        (try simp only [hl669004_95] at BK659)
                        (try simp only [hl669004_95] at BK668)
                        (try simp only [hl669004_95] at BK699)
                        (try simp only [hl669004_95] at HO_652004)
                        (try simp only [hl669004_95] at HO_660004)
                        (try simp only [hl669004_95] at HO_700004)
                        cases kq with
                        | zero => exact absurd HA.out (by simp [laws_FnExactFirstCome.j2])
                        | succ kj95 =>
                          have H := HA.out
                          clear HA
                          simp only [laws_FnExactFirstCome.j2] at H
                          by_cases c139 : x87_95 = true
                          · subst c139
                            have H1 : (some false) = some true := by rw [if_pos rfl] at H; first | done | exact H
                            clear H
                            have H := H1
                            clear H1
                            exact absurd H (by simp)
                          · replace c139 := Bool.eq_false_iff.mpr c139
                            subst c139
                            have H1 : ((laws_heldPattern.f kj95 t660 t661 t662 t663 t682 1).bind fun t701 => (if t701 < 0 then (some false) else (if t701 = t681 then (some true) else (some false)))) = some true := by rw [if_neg (show ¬ (false = true) by decide)] at H; first | done | exact H
                            clear H
                            have H := H1
                            clear H1
                            replace H := Option.bind_eq_some_iff.mp H
                            obtain ⟨t701, A1400, H⟩ := H
                            replace H : (if t701 < 0 then (some false) else (if t701 = t681 then (some true) else (some false))) = some true := H
                            have A140 := Aside0.mk A1400
                            clear A1400
                            by_cases c141 : t701 < 0
                            · rw [if_pos c141] at H
                              have c141b0 : decide (t701 < 0) = true := decide_eq_true c141
                              clear c141
                              exact absurd H (by simp)
                            · rw [if_neg c141] at H
                              have c141b0 : decide (t701 < 0) = false := decide_eq_false c141
                              clear c141
                              by_cases c142 : t701 = t681
                              · rw [if_pos c142] at H
                                have c142b0 : (t701 == t681) = true := beq_iff_eq.mpr c142
                                have c142b1 : (t701 != t681) = false := bne_eq_false_iff_eq.mpr c142
                                clear c142
                                clear H
                                have hnb143 := NB668_634.out
                                have hnc143 := NB634_668.out
                                have hnb144 := NB668_651.out
                                have hnc144 := NB651_668.out
                                have hnb145 := NB668_659.out
                                have hnc145 := NB659_668.out
                                have hnb146 := NB668_699.out
                                have hnc146 := NB699_668.out
                                have hcz147_0 : wc.cell? ⟨gb668, 0, none⟩ = some (.int .i64 t660) := (blk_cell BK668.out 0).trans rfl
                                have hcz147_1 : wc.cell? ⟨gb668, 1, none⟩ = some (.int .i64 t661) := (blk_cell BK668.out 1).trans rfl
                                have hcz147_2 : wc.cell? ⟨gb668, 2, none⟩ = some (.int .i64 t662) := (blk_cell BK668.out 2).trans rfl
                                have hcz147_3 : wc.cell? ⟨gb668, 3, none⟩ = some (.int .i64 t663) := (blk_cell BK668.out 3).trans rfl
                                have hcz147_4 : wc.cell? ⟨gb668, 4, none⟩ = some (.slice Ao36 t682.length co36) := (blk_cell BK668.out 4).trans rfl
                                have hfz147_0 := blk_frozen BK668.out 0
                                have hfz147_1 := blk_frozen BK668.out 1
                                have hfz147_2 := blk_frozen BK668.out 2
                                have hfz147_3 := blk_frozen BK668.out 3
                                have hfz147_4 := blk_frozen BK668.out 4
                                go_wp2_with (first | ((with_reducible refine gate_callee (f := 32) rfl ?_); refine goesL_ (some 90) rfl rfl Try.func32 (by kernel_rfl) rfl #[.agg #[.int .i64 t660, .int .i64 t661, .int .i64 t662, .int .i64 t663, .slice Ao36 t682.length co36], .int .i64 1] rfl (by (try simp only [List.map_toArray, List.map_cons, List.map_nil]); first | done | rfl | (simp only [List.length_drop, List.length_take]; rfl)) ?_; (with_reducible refine (laws_heldPattern.calls kj95 t660 t661 t662 t663 _ _ t682 1 t701 _ ?side1 ?side2 A140.out).mono ?_); (case side1 => repeat (first | exact (Kd.R_reads' HO_669004.out).2.2 | (with_reducible refine Kd.C_alloc ?_ _) | (with_reducible refine Kd.C_drewN ?_ _) | (with_reducible refine Kd.C_drew ?_))); (case side2 => exact (Kd.R_reads' HO_669004.out).2.1); rintro e w148 ⟨rfl, hb⟩; refine ⟨_, rfl, ?_⟩; have n0_ := Aside0.mk (Kd.R_below (by (with_reducible repeat (first | apply Kd.R_alloc | apply Kd.R_drewN | apply Kd.R_drew)); exact HO_652004.out) hb); have n1_ := Aside0.mk (Kd.R_below (by (with_reducible repeat (first | apply Kd.R_alloc | apply Kd.R_drewN | apply Kd.R_drew)); exact HO_660004.out) hb); have n2_ := Aside0.mk (Kd.R_below (by (with_reducible repeat (first | apply Kd.R_alloc | apply Kd.R_drewN | apply Kd.R_drew)); exact HO_669004.out) hb); have n3_ := Aside0.mk (Kd.R_below (by (with_reducible repeat (first | apply Kd.R_alloc | apply Kd.R_drewN | apply Kd.R_drew)); exact HO_700004.out) hb); have n4_ := Aside0.mk (blk_below (g := gb634) (o := .cells #[.int .i64 a0_0, .int .i64 a0_1, .int .i64 a0_2, .int .i64 a0_3, .slice A0_4 l0_4.length c0_4] 26 (0, 0)) (by (with_reducible repeat (first | refine blk_drewN ?_ _ | refine blk_drew ?_ | refine blk_alloc ?_ _)); exact BK634.out) hb); have n5_ := Aside0.mk (blk_below (g := gb651) (o := .cells #[.int .i64 t643, .int .i64 t644, .int .i64 t645, .int .i64 t646, .slice Ao22 t647.length co22] 31 (0, 0)) (by (with_reducible repeat (first | refine blk_drewN ?_ _ | refine blk_drew ?_ | refine blk_alloc ?_ _)); exact BK651.out) hb); have n6_ := Aside0.mk (blk_below (g := gb659) (o := .cells #[.int .i64 t652, .int .i64 t653, .int .i64 t654, .int .i64 t655, .slice Ao29 t679.length co29] 31 (0, 0)) (by (with_reducible repeat (first | refine blk_drewN ?_ _ | refine blk_drew ?_ | refine blk_alloc ?_ _)); exact BK659.out) hb); have n7_ := Aside0.mk (blk_below (g := gb668) (o := .cells #[.int .i64 t660, .int .i64 t661, .int .i64 t662, .int .i64 t663, .slice Ao36 t682.length co36] 31 (0, 0)) (by (with_reducible repeat (first | refine blk_drewN ?_ _ | refine blk_drew ?_ | refine blk_alloc ?_ _)); exact BK668.out) hb); have n8_ := Aside0.mk (blk_below (g := gb699) (o := .cells #[.int .i64 t691, .int .i64 t692, .int .i64 t693, .int .i64 t694, .slice Ao116 t695.length co116] 31 (0, 0)) (by (with_reducible repeat (first | refine blk_drewN ?_ _ | refine blk_drew ?_ | refine blk_alloc ?_ _)); exact BK699.out) hb); have n9_ := Aside0.mk (below_step (by repeat (first | (with_reducible first | exact HB.out | apply below_alloc | apply pw_below_drewN | apply below_drew1 | refine below_set ?_ GE634.out | refine below_set ?_ GE651.out | refine below_set ?_ GE659.out | refine below_set ?_ GE668.out | refine below_set ?_ GE699.out) | exact HB.out)) hb); clear HO_652004; clear HO_660004; clear HO_669004; clear HO_700004; clear BK634; clear BK651; clear BK659; clear BK668; clear BK699; clear HB; have HO_652004 := n0_; have HO_660004 := n1_; have HO_669004 := n2_; have HO_700004 := n3_; have BK634 := n4_; have BK651 := n5_; have BK659 := n6_; have BK668 := n7_; have BK699 := n8_; have HB := n9_; clear n0_ n1_ n2_ n3_ n4_ n5_ n6_ n7_ n8_ n9_; (try clear hb); (try clear hb2); (try clear hk); (try clear hi)))
                                go_ret
                                exact ⟨by first | rfl | (simp [errW_none, errW_some] <;> rfl) | (simp [*, errW_none, errW_some] <;> rfl), by repeat (first | (with_reducible first | exact HB.out | apply below_alloc | apply pw_below_drewN | apply below_drew1 | refine below_set ?_ GE634.out | refine below_set ?_ GE651.out | refine below_set ?_ GE659.out | refine below_set ?_ GE668.out | refine below_set ?_ GE699.out) | exact HB.out)⟩
                              · rw [if_neg c142] at H
                                have c142b0 : (t701 == t681) = false := beq_eq_false_iff_ne.mpr c142
                                have c142b1 : (t701 != t681) = true := bne_iff_ne.mpr c142
                                exact absurd H (by simp)
                    · rw [if_neg c93] at H
                      have c93b0 : (t683 == t681) = false := beq_eq_false_iff_ne.mpr c93
                      have c93b1 : (t683 != t681) = true := bne_iff_ne.mpr c93
                      exact absurd H (by simp)
          · replace c58 := Bool.eq_false_iff.mpr c58
            subst c58
            have H1 : (some false) = some true := by rw [if_neg (show ¬ (false = true) by decide)] at H; first | done | exact H
            clear H
            have H := H1
            clear H1
            exact absurd H (by simp)

/-- The one plain statement of laws_FnExactFirstCome. -/
def laws_FnExactFirstCome.Pure : Prop := ∀ (a0_0 : Int) (a0_1 : Int) (a0_2 : Int) (a0_3 : Int) (l0_4 : List Int), (Lit.int .i64 a0_0).wf = true → (Lit.int .i64 a0_1).wf = true → (Lit.int .i64 a0_2).wf = true → (Lit.int .i64 a0_3).wf = true → l0_4.length ≤ maxLen → (∀ x ∈ l0_4, (Lit.int .i64 x).wf = true) → ∃ k, laws_FnExactFirstCome.f k a0_0 a0_1 a0_2 a0_3 l0_4 = some true
end Go.Proofs.Yteeclbncpdafcaa.PA
