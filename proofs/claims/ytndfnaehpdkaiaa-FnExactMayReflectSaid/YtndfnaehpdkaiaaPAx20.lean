/- Walks written by program: each Go function that the law reaches comes to the plain function beside it. -/
import Derived.Test.YtndfnaehpdkaiaaPAx0
import Derived.Test.YtndfnaehpdkaiaaPAx2
import Derived.Test.YtndfnaehpdkaiaaPAx3
import Derived.Test.YtndfnaehpdkaiaaPAx5
import Derived.Test.YtndfnaehpdkaiaaPAx18
namespace Go.Proofs.Ytndfnaehpdkaiaa.PA
open Go.RowKit Go.Proofs.YtndfnaehpdkaiaaW.PrintWords Go.Proofs.YtndfnaehpdkaiaaW.PrintLast Go.Proofs.YtndfnaehpdkaiaaW.PrintMore
attribute [local go_sem] max2_int min2_int max_two min_two max_three min_three max_four min_four   -- for this text's walks alone
set_option linter.unusedVariables false
set_option linter.unusedSimpArgs false

attribute [local go_sem high] eqA33
/-! ### impl_Mat_isSmall: function 141 -/
def impl_Mat_isSmall.f (a0_0 : Int) (a0_1 : Int) (a0_2 : Int) (a0_3 : Int) : Option (Bool) := (impl_isCoordinate.f a0_0).bind fun t560 => (if t560 = true then ((impl_isCoordinate.f a0_1).bind fun t561 => (if t561 = true then ((impl_isCoordinate.f a0_2).bind fun t562 => (if t562 = true then ((impl_isCoordinate.f a0_3).bind fun t563 => (some t563)) else (some false))) else (some false))) else (some false))
set_option maxHeartbeats 8000000 in
set_option maxRecDepth 100000 in
theorem impl_Mat_isSmall.calls (a0_0 : Int) (a0_1 : Int) (a0_2 : Int) (a0_3 : Int) (r : Bool) (w : World) (h : impl_Mat_isSmall.f a0_0 a0_1 a0_2 a0_3 = some r) :
  Calls Try.prog 141 #[.agg #[.int .i64 a0_0, .int .i64 a0_1, .int .i64 a0_2, .int .i64 a0_3]] w fun e w' => e = .returned (.bool r) ∧ Below w.heap.size w w' := by
 have hu33 := Try.underlying33
 have HB := Aside0.mk (Below.refl w.heap.size w)
 have H : ((impl_isCoordinate.f a0_0).bind fun t560 => (if t560 = true then ((impl_isCoordinate.f a0_1).bind fun t561 => (if t561 = true then ((impl_isCoordinate.f a0_2).bind fun t562 => (if t562 = true then ((impl_isCoordinate.f a0_3).bind fun t563 => (some t563)) else (some false))) else (some false))) else (some false))) = some r := h
 clear h
 replace H := Option.bind_eq_some_iff.mp H
 obtain ⟨t560, A20, H⟩ := H
 replace H : (if t560 = true then ((impl_isCoordinate.f a0_1).bind fun t561 => (if t561 = true then ((impl_isCoordinate.f a0_2).bind fun t562 => (if t562 = true then ((impl_isCoordinate.f a0_3).bind fun t563 => (some t563)) else (some false))) else (some false))) else (some false)) = some r := H
 have A2 := Aside0.mk A20
 clear A20
 by_cases c3 : t560 = true
 ·subst c3
  have H1 : ((impl_isCoordinate.f a0_1).bind fun t561 => (if t561 = true then ((impl_isCoordinate.f a0_2).bind fun t562 => (if t562 = true then ((impl_isCoordinate.f a0_3).bind fun t563 => (some t563)) else (some false))) else (some false))) = some r := by rw [if_pos rfl] at H; first | done | exact H
  clear H
  have H := H1
  clear H1
  replace H := Option.bind_eq_some_iff.mp H
  obtain ⟨t561, A40, H⟩ := H
  replace H : (if t561 = true then ((impl_isCoordinate.f a0_2).bind fun t562 => (if t562 = true then ((impl_isCoordinate.f a0_3).bind fun t563 => (some t563)) else (some false))) else (some false)) = some r := H
  have A4 := Aside0.mk A40
  clear A40
  by_cases c5 : t561 = true
  ·subst c5
   have H1 : ((impl_isCoordinate.f a0_2).bind fun t562 => (if t562 = true then ((impl_isCoordinate.f a0_3).bind fun t563 => (some t563)) else (some false))) = some r := by rw [if_pos rfl] at H; first | done | exact H
   clear H
   have H := H1
   clear H1
   replace H := Option.bind_eq_some_iff.mp H
   obtain ⟨t562, A60, H⟩ := H
   replace H : (if t562 = true then ((impl_isCoordinate.f a0_3).bind fun t563 => (some t563)) else (some false)) = some r := H
   have A6 := Aside0.mk A60
   clear A60
   by_cases c7 : t562 = true
   ·subst c7
    have H1 : ((impl_isCoordinate.f a0_3).bind fun t563 => (some t563)) = some r := by rw [if_pos rfl] at H; first | done | exact H
    clear H
    have H := H1
    clear H1
    replace H := Option.bind_eq_some_iff.mp H
    obtain ⟨t563, A80, H⟩ := H
    replace H : (some t563) = some r := H
    have A8 := Aside0.mk A80
    clear A80
    obtain rfl := Option.some.inj H
    go_enter Try.func141, Try.ntmps141
    go_wp2_with (first | ((with_reducible refine gate_dst (N := 1) rfl ?_); refine box_event ?hg (N := 1) ?hd (cs := #[.int .i64 a0_0, .int .i64 a0_1, .int .i64 a0_2, .int .i64 a0_3]) (t := 33) ?hr ?_; (case hd => rfl); (case hg => rfl); (case hr => first | (go_simp; done) | (go_simp; rfl)); intro gb559 hg w9 hbox hb; have n0_ := Aside0.mk (bst0 HB hb); have n1_ := Aside0.mk (hbox); have n2_ := ngw0 hg HB; have n3_ := n2_; clear HB; have HB := n0_; have BK559 := n1_; have GW559 := n2_; have GE559 := n3_; clear n0_ n1_ n2_ n3_; clear hb hbox hg; have hcz10_0 : w9.cell? ⟨gb559, 0, none⟩ = some (.int .i64 a0_0) := bcl BK559 0; have hcz10_1 : w9.cell? ⟨gb559, 1, none⟩ = some (.int .i64 a0_1) := bcl BK559 1; have hcz10_2 : w9.cell? ⟨gb559, 2, none⟩ = some (.int .i64 a0_2) := bcl BK559 2; have hcz10_3 : w9.cell? ⟨gb559, 3, none⟩ = some (.int .i64 a0_3) := bcl BK559 3; have hfz10_0 := blk_frozen BK559.out 0; have hfz10_1 := blk_frozen BK559.out 1; have hfz10_2 := blk_frozen BK559.out 2; have hfz10_3 := blk_frozen BK559.out 3) | ((with_reducible refine gate_callee (f := 119) rfl ?_); refine goesL_ (some 5) rfl rfl Try.func119 (by kernel_rfl) rfl #[.int .i64 a0_0] rfl (by (try simp only [List.map_toArray, List.map_cons, List.map_nil]); first | done | rfl | (simp only [List.length_drop, List.length_take]; rfl)) ?_; (with_reducible refine (impl_isCoordinate.calls a0_0 true _ A2.out).mono ?_); rintro e w' ⟨rfl, ⟨nd, rfl⟩⟩; refine ⟨_, rfl, ?_⟩) | (go_at_call 119; (with_reducible refine (impl_isCoordinate.calls a0_1 true _ A4.out).mono ?_); rintro e w' ⟨rfl, ⟨nd, rfl⟩⟩) | (go_at_call 119; (with_reducible refine (impl_isCoordinate.calls a0_2 true _ A6.out).mono ?_); rintro e w' ⟨rfl, ⟨nd, rfl⟩⟩) | (go_at_call 119; (with_reducible refine (impl_isCoordinate.calls a0_3 t563 _ A8.out).mono ?_); rintro e w' ⟨rfl, ⟨nd, rfl⟩⟩))
    go_ret
    exact ⟨by first | rfl | (simp [errW_none, errW_some] <;> rfl) | (simp [*, errW_none, errW_some] <;> rfl), bbw1 HB GE559⟩
   ·replace c7 := Bool.eq_false_iff.mpr c7
    subst c7
    have H1 : (some false) = some r := by rw [if_neg (show ¬ (false = true) by decide)] at H; first | done | exact H
    clear H
    have H := H1
    clear H1
    obtain rfl := Option.some.inj H
    go_enter Try.func141, Try.ntmps141
    go_wp2_with (first | ((with_reducible refine gate_dst (N := 1) rfl ?_); refine box_event ?hg (N := 1) ?hd (cs := #[.int .i64 a0_0, .int .i64 a0_1, .int .i64 a0_2, .int .i64 a0_3]) (t := 33) ?hr ?_; (case hd => rfl); (case hg => rfl); (case hr => first | (go_simp; done) | (go_simp; rfl)); intro gb559 hg w11 hbox hb; have n0_ := Aside0.mk (bst0 HB hb); have n1_ := Aside0.mk (hbox); have n2_ := ngw0 hg HB; have n3_ := n2_; clear HB; have HB := n0_; have BK559 := n1_; have GW559 := n2_; have GE559 := n3_; clear n0_ n1_ n2_ n3_; clear hb hbox hg; have hcz12_0 : w11.cell? ⟨gb559, 0, none⟩ = some (.int .i64 a0_0) := bcl BK559 0; have hcz12_1 : w11.cell? ⟨gb559, 1, none⟩ = some (.int .i64 a0_1) := bcl BK559 1; have hcz12_2 : w11.cell? ⟨gb559, 2, none⟩ = some (.int .i64 a0_2) := bcl BK559 2; have hcz12_3 : w11.cell? ⟨gb559, 3, none⟩ = some (.int .i64 a0_3) := bcl BK559 3; have hfz12_0 := blk_frozen BK559.out 0; have hfz12_1 := blk_frozen BK559.out 1; have hfz12_2 := blk_frozen BK559.out 2; have hfz12_3 := blk_frozen BK559.out 3) | ((with_reducible refine gate_callee (f := 119) rfl ?_); refine goesL_ (some 5) rfl rfl Try.func119 (by kernel_rfl) rfl #[.int .i64 a0_0] rfl (by (try simp only [List.map_toArray, List.map_cons, List.map_nil]); first | done | rfl | (simp only [List.length_drop, List.length_take]; rfl)) ?_; (with_reducible refine (impl_isCoordinate.calls a0_0 true _ A2.out).mono ?_); rintro e w' ⟨rfl, ⟨nd, rfl⟩⟩; refine ⟨_, rfl, ?_⟩) | (go_at_call 119; (with_reducible refine (impl_isCoordinate.calls a0_1 true _ A4.out).mono ?_); rintro e w' ⟨rfl, ⟨nd, rfl⟩⟩) | (go_at_call 119; (with_reducible refine (impl_isCoordinate.calls a0_2 false _ A6.out).mono ?_); rintro e w' ⟨rfl, ⟨nd, rfl⟩⟩))
    go_ret
    exact ⟨by first | rfl | (simp [errW_none, errW_some] <;> rfl) | (simp [*, errW_none, errW_some] <;> rfl), bbw1 HB GE559⟩
  ·replace c5 := Bool.eq_false_iff.mpr c5
   subst c5
   have H1 : (some false) = some r := by rw [if_neg (show ¬ (false = true) by decide)] at H; first | done | exact H
   clear H
   have H := H1
   clear H1
   obtain rfl := Option.some.inj H
   go_enter Try.func141, Try.ntmps141
   go_wp2_with (first | ((with_reducible refine gate_dst (N := 1) rfl ?_); refine box_event ?hg (N := 1) ?hd (cs := #[.int .i64 a0_0, .int .i64 a0_1, .int .i64 a0_2, .int .i64 a0_3]) (t := 33) ?hr ?_; (case hd => rfl); (case hg => rfl); (case hr => first | (go_simp; done) | (go_simp; rfl)); intro gb559 hg w13 hbox hb; have n0_ := Aside0.mk (bst0 HB hb); have n1_ := Aside0.mk (hbox); have n2_ := ngw0 hg HB; have n3_ := n2_; clear HB; have HB := n0_; have BK559 := n1_; have GW559 := n2_; have GE559 := n3_; clear n0_ n1_ n2_ n3_; clear hb hbox hg; have hcz14_0 : w13.cell? ⟨gb559, 0, none⟩ = some (.int .i64 a0_0) := bcl BK559 0; have hcz14_1 : w13.cell? ⟨gb559, 1, none⟩ = some (.int .i64 a0_1) := bcl BK559 1; have hcz14_2 : w13.cell? ⟨gb559, 2, none⟩ = some (.int .i64 a0_2) := bcl BK559 2; have hcz14_3 : w13.cell? ⟨gb559, 3, none⟩ = some (.int .i64 a0_3) := bcl BK559 3; have hfz14_0 := blk_frozen BK559.out 0; have hfz14_1 := blk_frozen BK559.out 1; have hfz14_2 := blk_frozen BK559.out 2; have hfz14_3 := blk_frozen BK559.out 3) | ((with_reducible refine gate_callee (f := 119) rfl ?_); refine goesL_ (some 5) rfl rfl Try.func119 (by kernel_rfl) rfl #[.int .i64 a0_0] rfl (by (try simp only [List.map_toArray, List.map_cons, List.map_nil]); first | done | rfl | (simp only [List.length_drop, List.length_take]; rfl)) ?_; (with_reducible refine (impl_isCoordinate.calls a0_0 true _ A2.out).mono ?_); rintro e w' ⟨rfl, ⟨nd, rfl⟩⟩; refine ⟨_, rfl, ?_⟩) | (go_at_call 119; (with_reducible refine (impl_isCoordinate.calls a0_1 false _ A4.out).mono ?_); rintro e w' ⟨rfl, ⟨nd, rfl⟩⟩))
   go_ret
   exact ⟨by first | rfl | (simp [errW_none, errW_some] <;> rfl) | (simp [*, errW_none, errW_some] <;> rfl), bbw1 HB GE559⟩
 ·replace c3 := Bool.eq_false_iff.mpr c3
  subst c3
  have H1 : (some false) = some r := by rw [if_neg (show ¬ (false = true) by decide)] at H; first | done | exact H
  clear H
  have H := H1
  clear H1
  obtain rfl := Option.some.inj H
  go_enter Try.func141, Try.ntmps141
  go_wp2_with (first | ((with_reducible refine gate_dst (N := 1) rfl ?_); refine box_event ?hg (N := 1) ?hd (cs := #[.int .i64 a0_0, .int .i64 a0_1, .int .i64 a0_2, .int .i64 a0_3]) (t := 33) ?hr ?_; (case hd => rfl); (case hg => rfl); (case hr => first | (go_simp; done) | (go_simp; rfl)); intro gb559 hg w15 hbox hb; have n0_ := Aside0.mk (bst0 HB hb); have n1_ := Aside0.mk (hbox); have n2_ := ngw0 hg HB; have n3_ := n2_; clear HB; have HB := n0_; have BK559 := n1_; have GW559 := n2_; have GE559 := n3_; clear n0_ n1_ n2_ n3_; clear hb hbox hg; have hcz16_0 : w15.cell? ⟨gb559, 0, none⟩ = some (.int .i64 a0_0) := bcl BK559 0; have hcz16_1 : w15.cell? ⟨gb559, 1, none⟩ = some (.int .i64 a0_1) := bcl BK559 1; have hcz16_2 : w15.cell? ⟨gb559, 2, none⟩ = some (.int .i64 a0_2) := bcl BK559 2; have hcz16_3 : w15.cell? ⟨gb559, 3, none⟩ = some (.int .i64 a0_3) := bcl BK559 3; have hfz16_0 := blk_frozen BK559.out 0; have hfz16_1 := blk_frozen BK559.out 1; have hfz16_2 := blk_frozen BK559.out 2; have hfz16_3 := blk_frozen BK559.out 3) | ((with_reducible refine gate_callee (f := 119) rfl ?_); refine goesL_ (some 5) rfl rfl Try.func119 (by kernel_rfl) rfl #[.int .i64 a0_0] rfl (by (try simp only [List.map_toArray, List.map_cons, List.map_nil]); first | done | rfl | (simp only [List.length_drop, List.length_take]; rfl)) ?_; (with_reducible refine (impl_isCoordinate.calls a0_0 false _ A2.out).mono ?_); rintro e w' ⟨rfl, ⟨nd, rfl⟩⟩; refine ⟨_, rfl, ?_⟩))
  go_ret
  exact ⟨by first | rfl | (simp [errW_none, errW_some] <;> rfl) | (simp [*, errW_none, errW_some] <;> rfl), bbw1 HB GE559⟩

/-! ### impl_IsMat: function 129 -/
def impl_IsMat.f (a0_0 : Int) (a0_1 : Int) (a0_2 : Int) (a0_3 : Int) : Option (Bool) := (impl_Mat_isSmall.f a0_0 a0_1 a0_2 a0_3).bind fun t565 => (if t565 = true then ((impl_Mat_det.f a0_0 a0_1 a0_2 a0_3).bind fun t566 => (if t566 = 1 then (some true) else ((impl_Mat_det.f a0_0 a0_1 a0_2 a0_3).bind fun t567 => (some (t567 == (-1)))))) else (some false))
set_option maxHeartbeats 8000000 in
set_option maxRecDepth 100000 in
theorem impl_IsMat.calls (a0_0 : Int) (a0_1 : Int) (a0_2 : Int) (a0_3 : Int) (r : Bool) (w : World) (h : impl_IsMat.f a0_0 a0_1 a0_2 a0_3 = some r) :
  Calls Try.prog 129 #[.agg #[.int .i64 a0_0, .int .i64 a0_1, .int .i64 a0_2, .int .i64 a0_3]] w fun e w' => e = .returned (.bool r) ∧ Below w.heap.size w w' := by
 have hu33 := Try.underlying33
 have HB := Aside0.mk (Below.refl w.heap.size w)
 have H : ((impl_Mat_isSmall.f a0_0 a0_1 a0_2 a0_3).bind fun t565 => (if t565 = true then ((impl_Mat_det.f a0_0 a0_1 a0_2 a0_3).bind fun t566 => (if t566 = 1 then (some true) else ((impl_Mat_det.f a0_0 a0_1 a0_2 a0_3).bind fun t567 => (some (t567 == (-1)))))) else (some false))) = some r := h
 clear h
 replace H := Option.bind_eq_some_iff.mp H
 obtain ⟨t565, A20, H⟩ := H
 replace H : (if t565 = true then ((impl_Mat_det.f a0_0 a0_1 a0_2 a0_3).bind fun t566 => (if t566 = 1 then (some true) else ((impl_Mat_det.f a0_0 a0_1 a0_2 a0_3).bind fun t567 => (some (t567 == (-1)))))) else (some false)) = some r := H
 have A2 := Aside0.mk A20
 clear A20
 by_cases c3 : t565 = true
 ·subst c3
  have H1 : ((impl_Mat_det.f a0_0 a0_1 a0_2 a0_3).bind fun t566 => (if t566 = 1 then (some true) else ((impl_Mat_det.f a0_0 a0_1 a0_2 a0_3).bind fun t567 => (some (t567 == (-1)))))) = some r := by rw [if_pos rfl] at H; first | done | exact H
  clear H
  have H := H1
  clear H1
  replace H := Option.bind_eq_some_iff.mp H
  obtain ⟨t566, A40, H⟩ := H
  replace H : (if t566 = 1 then (some true) else ((impl_Mat_det.f a0_0 a0_1 a0_2 a0_3).bind fun t567 => (some (t567 == (-1))))) = some r := H
  have A4 := Aside0.mk A40
  clear A40
  by_cases c5 : t566 = 1
  ·rw [if_pos c5] at H
   have c5b0 : (t566 == 1) = true := beq_iff_eq.mpr c5
   have c5b1 : (t566 != 1) = false := bne_eq_false_iff_eq.mpr c5
   clear c5
   obtain rfl := Option.some.inj H
   go_enter Try.func129, Try.ntmps129
   go_wp2_with (first | ((with_reducible refine gate_dst (N := 1) rfl ?_); refine box_event ?hg (N := 1) ?hd (cs := #[.int .i64 a0_0, .int .i64 a0_1, .int .i64 a0_2, .int .i64 a0_3]) (t := 33) ?hr ?_; (case hd => rfl); (case hg => rfl); (case hr => first | (go_simp; done) | (go_simp; rfl)); intro gb564 hg w6 hbox hb; have n0_ := Aside0.mk (bst0 HB hb); have n1_ := Aside0.mk (hbox); have n2_ := ngw0 hg HB; have n3_ := n2_; clear HB; have HB := n0_; have BK564 := n1_; have GW564 := n2_; have GE564 := n3_; clear n0_ n1_ n2_ n3_; clear hb hbox hg; have hcz7_0 : w6.cell? ⟨gb564, 0, none⟩ = some (.int .i64 a0_0) := bcl BK564 0; have hcz7_1 : w6.cell? ⟨gb564, 1, none⟩ = some (.int .i64 a0_1) := bcl BK564 1; have hcz7_2 : w6.cell? ⟨gb564, 2, none⟩ = some (.int .i64 a0_2) := bcl BK564 2; have hcz7_3 : w6.cell? ⟨gb564, 3, none⟩ = some (.int .i64 a0_3) := bcl BK564 3; have hfz7_0 := blk_frozen BK564.out 0; have hfz7_1 := blk_frozen BK564.out 1; have hfz7_2 := blk_frozen BK564.out 2; have hfz7_3 := blk_frozen BK564.out 3) | ((with_reducible refine gate_callee (f := 141) rfl ?_); refine goesL_ (some 4) rfl rfl Try.func141 (by kernel_rfl) rfl #[.agg #[.int .i64 a0_0, .int .i64 a0_1, .int .i64 a0_2, .int .i64 a0_3]] rfl (by (try simp only [List.map_toArray, List.map_cons, List.map_nil]); first | done | rfl | (simp only [List.length_drop, List.length_take]; rfl)) ?_; (with_reducible refine (impl_Mat_isSmall.calls a0_0 a0_1 a0_2 a0_3 true _ A2.out).mono ?_); rintro e w8 ⟨rfl, hb⟩; refine ⟨_, rfl, ?_⟩; have n0_ := Aside0.mk (bbl BK564 hb); have n1_ := Aside0.mk (bst1 HB GE564 hb); clear BK564; clear HB; have BK564 := n0_; have HB := n1_; clear n0_ n1_; (try clear hb); (try clear hb2); (try clear hk); (try clear hi); have hcz9_0 : w8.cell? ⟨gb564, 0, none⟩ = some (.int .i64 a0_0) := bcl BK564 0; have hcz9_1 : w8.cell? ⟨gb564, 1, none⟩ = some (.int .i64 a0_1) := bcl BK564 1; have hcz9_2 : w8.cell? ⟨gb564, 2, none⟩ = some (.int .i64 a0_2) := bcl BK564 2; have hcz9_3 : w8.cell? ⟨gb564, 3, none⟩ = some (.int .i64 a0_3) := bcl BK564 3; have hfz9_0 := blk_frozen BK564.out 0; have hfz9_1 := blk_frozen BK564.out 1; have hfz9_2 := blk_frozen BK564.out 2; have hfz9_3 := blk_frozen BK564.out 3) | (go_at_call 127; (with_reducible refine (impl_Mat_det.calls a0_0 a0_1 a0_2 a0_3 t566 _ A4.out).mono ?_); rintro e w10 ⟨rfl, hb⟩; have n0_ := Aside0.mk (bbl BK564 hb); have n1_ := Aside0.mk (bst1 HB GE564 hb); clear BK564; clear HB; have BK564 := n0_; have HB := n1_; clear n0_ n1_; (try clear hb); (try clear hb2); (try clear hk); (try clear hi)))
   go_ret
   exact ⟨by first | rfl | (simp [errW_none, errW_some] <;> rfl) | (simp [*, errW_none, errW_some] <;> rfl), bbw1 HB GE564⟩
  ·rw [if_neg c5] at H
   have c5b0 : (t566 == 1) = false := beq_eq_false_iff_ne.mpr c5
   have c5b1 : (t566 != 1) = true := bne_iff_ne.mpr c5
   replace H := Option.bind_eq_some_iff.mp H
   obtain ⟨t567, A110, H⟩ := H
   replace H : (some (t567 == (-1))) = some r := H
   have A11 := Aside0.mk A110
   clear A110
   have e_ : t566 = t567 := Option.some.inj (A4.out.symm.trans A11.out)
   subst e_
   obtain rfl := Option.some.inj H
   go_enter Try.func129, Try.ntmps129
   go_wp2_with (first | ((with_reducible refine gate_dst (N := 1) rfl ?_); refine box_event ?hg (N := 1) ?hd (cs := #[.int .i64 a0_0, .int .i64 a0_1, .int .i64 a0_2, .int .i64 a0_3]) (t := 33) ?hr ?_; (case hd => rfl); (case hg => rfl); (case hr => first | (go_simp; done) | (go_simp; rfl)); intro gb564 hg w12 hbox hb; have n0_ := Aside0.mk (bst0 HB hb); have n1_ := Aside0.mk (hbox); have n2_ := ngw0 hg HB; have n3_ := n2_; clear HB; have HB := n0_; have BK564 := n1_; have GW564 := n2_; have GE564 := n3_; clear n0_ n1_ n2_ n3_; clear hb hbox hg; have hcz13_0 : w12.cell? ⟨gb564, 0, none⟩ = some (.int .i64 a0_0) := bcl BK564 0; have hcz13_1 : w12.cell? ⟨gb564, 1, none⟩ = some (.int .i64 a0_1) := bcl BK564 1; have hcz13_2 : w12.cell? ⟨gb564, 2, none⟩ = some (.int .i64 a0_2) := bcl BK564 2; have hcz13_3 : w12.cell? ⟨gb564, 3, none⟩ = some (.int .i64 a0_3) := bcl BK564 3; have hfz13_0 := blk_frozen BK564.out 0; have hfz13_1 := blk_frozen BK564.out 1; have hfz13_2 := blk_frozen BK564.out 2; have hfz13_3 := blk_frozen BK564.out 3) | ((with_reducible refine gate_callee (f := 141) rfl ?_); refine goesL_ (some 4) rfl rfl Try.func141 (by kernel_rfl) rfl #[.agg #[.int .i64 a0_0, .int .i64 a0_1, .int .i64 a0_2, .int .i64 a0_3]] rfl (by (try simp only [List.map_toArray, List.map_cons, List.map_nil]); first | done | rfl | (simp only [List.length_drop, List.length_take]; rfl)) ?_; (with_reducible refine (impl_Mat_isSmall.calls a0_0 a0_1 a0_2 a0_3 true _ A2.out).mono ?_); rintro e w14 ⟨rfl, hb⟩; refine ⟨_, rfl, ?_⟩; have n0_ := Aside0.mk (bbl BK564 hb); have n1_ := Aside0.mk (bst1 HB GE564 hb); clear BK564; clear HB; have BK564 := n0_; have HB := n1_; clear n0_ n1_; (try clear hb); (try clear hb2); (try clear hk); (try clear hi); have hcz15_0 : w14.cell? ⟨gb564, 0, none⟩ = some (.int .i64 a0_0) := bcl BK564 0; have hcz15_1 : w14.cell? ⟨gb564, 1, none⟩ = some (.int .i64 a0_1) := bcl BK564 1; have hcz15_2 : w14.cell? ⟨gb564, 2, none⟩ = some (.int .i64 a0_2) := bcl BK564 2; have hcz15_3 : w14.cell? ⟨gb564, 3, none⟩ = some (.int .i64 a0_3) := bcl BK564 3; have hfz15_0 := blk_frozen BK564.out 0; have hfz15_1 := blk_frozen BK564.out 1; have hfz15_2 := blk_frozen BK564.out 2; have hfz15_3 := blk_frozen BK564.out 3) | (go_at_call 127; (with_reducible refine (impl_Mat_det.calls a0_0 a0_1 a0_2 a0_3 t566 _ A4.out).mono ?_); rintro e w16 ⟨rfl, hb⟩; have n0_ := Aside0.mk (bbl BK564 hb); have n1_ := Aside0.mk (bst1 HB GE564 hb); clear BK564; clear HB; have BK564 := n0_; have HB := n1_; clear n0_ n1_; (try clear hb); (try clear hb2); (try clear hk); (try clear hi); have hcz17_0 : w16.cell? ⟨gb564, 0, none⟩ = some (.int .i64 a0_0) := bcl BK564 0; have hcz17_1 : w16.cell? ⟨gb564, 1, none⟩ = some (.int .i64 a0_1) := bcl BK564 1; have hcz17_2 : w16.cell? ⟨gb564, 2, none⟩ = some (.int .i64 a0_2) := bcl BK564 2; have hcz17_3 : w16.cell? ⟨gb564, 3, none⟩ = some (.int .i64 a0_3) := bcl BK564 3; have hfz17_0 := blk_frozen BK564.out 0; have hfz17_1 := blk_frozen BK564.out 1; have hfz17_2 := blk_frozen BK564.out 2; have hfz17_3 := blk_frozen BK564.out 3) | (go_at_call 127; (with_reducible refine (impl_Mat_det.calls a0_0 a0_1 a0_2 a0_3 t567 _ A11.out).mono ?_); rintro e w18 ⟨rfl, hb⟩; have n0_ := Aside0.mk (bbl BK564 hb); have n1_ := Aside0.mk (bst1 HB GE564 hb); clear BK564; clear HB; have BK564 := n0_; have HB := n1_; clear n0_ n1_; (try clear hb); (try clear hb2); (try clear hk); (try clear hi)))
   go_ret
   exact ⟨by first | rfl | (simp [errW_none, errW_some] <;> rfl) | (simp [*, errW_none, errW_some] <;> rfl), bbw1 HB GE564⟩
 ·replace c3 := Bool.eq_false_iff.mpr c3
  subst c3
  have H1 : (some false) = some r := by rw [if_neg (show ¬ (false = true) by decide)] at H; first | done | exact H
  clear H
  have H := H1
  clear H1
  obtain rfl := Option.some.inj H
  go_enter Try.func129, Try.ntmps129
  go_wp2_with (first | ((with_reducible refine gate_dst (N := 1) rfl ?_); refine box_event ?hg (N := 1) ?hd (cs := #[.int .i64 a0_0, .int .i64 a0_1, .int .i64 a0_2, .int .i64 a0_3]) (t := 33) ?hr ?_; (case hd => rfl); (case hg => rfl); (case hr => first | (go_simp; done) | (go_simp; rfl)); intro gb564 hg w19 hbox hb; have n0_ := Aside0.mk (bst0 HB hb); have n1_ := Aside0.mk (hbox); have n2_ := ngw0 hg HB; have n3_ := n2_; clear HB; have HB := n0_; have BK564 := n1_; have GW564 := n2_; have GE564 := n3_; clear n0_ n1_ n2_ n3_; clear hb hbox hg; have hcz20_0 : w19.cell? ⟨gb564, 0, none⟩ = some (.int .i64 a0_0) := bcl BK564 0; have hcz20_1 : w19.cell? ⟨gb564, 1, none⟩ = some (.int .i64 a0_1) := bcl BK564 1; have hcz20_2 : w19.cell? ⟨gb564, 2, none⟩ = some (.int .i64 a0_2) := bcl BK564 2; have hcz20_3 : w19.cell? ⟨gb564, 3, none⟩ = some (.int .i64 a0_3) := bcl BK564 3; have hfz20_0 := blk_frozen BK564.out 0; have hfz20_1 := blk_frozen BK564.out 1; have hfz20_2 := blk_frozen BK564.out 2; have hfz20_3 := blk_frozen BK564.out 3) | ((with_reducible refine gate_callee (f := 141) rfl ?_); refine goesL_ (some 4) rfl rfl Try.func141 (by kernel_rfl) rfl #[.agg #[.int .i64 a0_0, .int .i64 a0_1, .int .i64 a0_2, .int .i64 a0_3]] rfl (by (try simp only [List.map_toArray, List.map_cons, List.map_nil]); first | done | rfl | (simp only [List.length_drop, List.length_take]; rfl)) ?_; (with_reducible refine (impl_Mat_isSmall.calls a0_0 a0_1 a0_2 a0_3 false _ A2.out).mono ?_); rintro e w21 ⟨rfl, hb⟩; refine ⟨_, rfl, ?_⟩; have n0_ := Aside0.mk (bbl BK564 hb); have n1_ := Aside0.mk (bst1 HB GE564 hb); clear BK564; clear HB; have BK564 := n0_; have HB := n1_; clear n0_ n1_; (try clear hb); (try clear hb2); (try clear hk); (try clear hi)))
  go_ret
  exact ⟨by first | rfl | (simp [errW_none, errW_some] <;> rfl) | (simp [*, errW_none, errW_some] <;> rfl), bbw1 HB GE564⟩

/-! ### impl_compareNumbers: function 142 -/
def impl_compareNumbers.l0 : Nat → List Int → List Int → Int → Int → Option (Int)
 | 0, _, _, _, _ => none
 | k + 1, x0, x1, x7, x8 => if x8 < x7 then (if 0 ≤ x8 then (if x8 < (x0.length : Int) then (if x8 < (x1.length : Int) then (if (rd x0 x8) = (rd x1 x8) then (impl_compareNumbers.l0 k x0 x1 x7 (wrap64 (x8 + 1))) else (if (rd x0 x8) < (rd x1 x8) then (some (-1)) else (some 1))) else (none)) else (none)) else (none)) else (some 0)
def impl_compareNumbers.f (k : Nat) (l0 : List Int) (l1 : List Int) : Option (Int) := impl_compareNumbers.l0 k l0 l1 (l0.length : Int) 0
set_option maxHeartbeats 8000000 in
set_option maxRecDepth 100000 in
theorem impl_compareNumbers.calls (k : Nat) (A0 : Option Addr) (c0 : Nat) (l0 : List Int) (A1 : Option Addr) (c1 : Nat) (l1 : List Int) (r : Int) (w : World) (hr0 : Kd.C (Kd.int .i64) w A0 l0.length l0) (hc0 : l0.length ≤ c0) (hr1 : Kd.C (Kd.int .i64) w A1 l1.length l1) (hc1 : l1.length ≤ c1) (h : impl_compareNumbers.f k l0 l1 = some r) :
  Calls Try.prog 142 #[.slice A0 l0.length c0, .slice A1 l1.length c1] w fun e w' => e = .returned (.int .i64 r) ∧ Drawn0 w w' := by
 have HR0 := Aside0.mk hr0
 have HC0 := Aside0.mk hc0
 clear hr0 hc0
 have HR1 := Aside0.mk hr1
 have HC1 := Aside0.mk hc1
 clear hr1 hc1
 have H : (impl_compareNumbers.l0 k l0 l1 (l0.length : Int) 0) = some r := h
 clear h
 have H' := Aside0.mk H
 clear H
 go_enter Try.func142, Try.ntmps142
 go_wp2
 repeat (go_quiet (fail); try go_wp2)
 go_loopg [8] k (fun kq v8 w' => ∃ (x8_1 : Int), v8 = .int .i64 x8_1 ∧ Aside0 (impl_compareNumbers.l0 kq l0 l1 (l0.length : Int) x8_1 = some r) ∧ Aside0 (kq ≤ k) ∧ Drawn0 w w')
 case atStart => exact ⟨(0), (by first | rfl | (simp; done) | (simp [*]; done)), H', ⟨Nat.le_refl _⟩, by repeat (first | exact Drawn0.refl _ | apply Drawn0.step)⟩
 case round =>
  clear H'
  try clear c1
  try clear p2
  obtain ⟨x8_1, rfl, HA, HK1, ⟨m1, rfl⟩⟩ := hrel
  cases gk with
  | zero => exact absurd HA.out (by simp [impl_compareNumbers.l0])
  | succ k1 =>
   have H := HA.out
   clear HA
   simp only [impl_compareNumbers.l0] at H
   by_cases c3 : x8_1 < (l0.length : Int)
   ·rw [if_pos c3] at H
    have c3b0 : decide (x8_1 < (l0.length : Int)) = true := decide_eq_true c3
    clear c3
    by_cases c4 : 0 ≤ x8_1
    ·rw [if_pos c4] at H
     have c4b0 : decide (0 ≤ x8_1) = true := decide_eq_true c4
     clear c4
     by_cases c5 : x8_1 < (l0.length : Int)
     ·rw [if_pos c5] at H
      have c5b0 : decide (x8_1 < (l0.length : Int)) = true := decide_eq_true c5
      clear c5
      by_cases c6 : x8_1 < (l1.length : Int)
      ·rw [if_pos c6] at H
       have c6b0 : decide (x8_1 < (l1.length : Int)) = true := decide_eq_true c6
       clear c6
       by_cases c7 : (rd l0 x8_1) = (rd l1 x8_1)
       ·rw [if_pos c7] at H
        have c7b0 : ((rd l0 x8_1) == (rd l1 x8_1)) = true := beq_iff_eq.mpr c7
        have c7b1 : ((rd l0 x8_1) != (rd l1 x8_1)) = false := bne_eq_false_iff_eq.mpr c7
        clear c7
        have H' := Aside0.mk H
        clear H
        have p568 : 0 ≤ (x8_1 : Int) := of_decide_eq_true (by first | (with_reducible assumption) | assumption)
        have q568 : x8_1 < (l0.length : Int) := of_decide_eq_true (by first | (with_reducible assumption) | assumption)
        obtain ⟨ad568, e568, hx568_0⟩ := Kd.at_int HR0.out x8_1 p568 q568
        cases e568
        replace p568 := eq_true p568
        replace q568 := eq_true q568
        have p569 : 0 ≤ (x8_1 : Int) := of_decide_eq_true (by first | (with_reducible assumption) | assumption)
        have q569 : x8_1 < (l1.length : Int) := of_decide_eq_true (by first | (with_reducible assumption) | assumption)
        obtain ⟨ad569, e569, hx569_0⟩ := Kd.at_int HR1.out x8_1 p569 q569
        cases e569
        replace p569 := eq_true p569
        replace q569 := eq_true q569
        go_wp2
        repeat (go_quiet (fail); try go_wp2)
        go_roundg k1
        case measure => have := HK1.out; omega
        case rel => exact ⟨(wrap64 (x8_1 + 1)), (by first | rfl | (simp; done) | (simp [*]; done)), H', ⟨by have := HK1.out; omega⟩, by repeat (first | exact Drawn0.refl _ | apply Drawn0.step)⟩
       ·rw [if_neg c7] at H
        have c7b0 : ((rd l0 x8_1) == (rd l1 x8_1)) = false := beq_eq_false_iff_ne.mpr c7
        have c7b1 : ((rd l0 x8_1) != (rd l1 x8_1)) = true := bne_iff_ne.mpr c7
        by_cases c8 : (rd l0 x8_1) < (rd l1 x8_1)
        ·rw [if_pos c8] at H
         have c8b0 : decide ((rd l0 x8_1) < (rd l1 x8_1)) = true := decide_eq_true c8
         clear c8
         obtain rfl := Option.some.inj H
         have p568 : 0 ≤ (x8_1 : Int) := of_decide_eq_true (by first | (with_reducible assumption) | assumption)
         have q568 : x8_1 < (l0.length : Int) := of_decide_eq_true (by first | (with_reducible assumption) | assumption)
         obtain ⟨ad568, e568, hx568_0⟩ := Kd.at_int HR0.out x8_1 p568 q568
         cases e568
         replace p568 := eq_true p568
         replace q568 := eq_true q568
         have p569 : 0 ≤ (x8_1 : Int) := of_decide_eq_true (by first | (with_reducible assumption) | assumption)
         have q569 : x8_1 < (l1.length : Int) := of_decide_eq_true (by first | (with_reducible assumption) | assumption)
         obtain ⟨ad569, e569, hx569_0⟩ := Kd.at_int HR1.out x8_1 p569 q569
         cases e569
         replace p569 := eq_true p569
         replace q569 := eq_true q569
         have p570 : 0 ≤ (x8_1 : Int) := of_decide_eq_true (by first | (with_reducible assumption) | assumption)
         have q570 : x8_1 < (l0.length : Int) := of_decide_eq_true (by first | (with_reducible assumption) | assumption)
         obtain ⟨ad570, e570, hx570_0⟩ := Kd.at_int HR0.out x8_1 p570 q570
         obtain rfl : ad568 = ad570 := (by injection e570)
         replace p570 := eq_true p570
         replace q570 := eq_true q570
         have p571 : 0 ≤ (x8_1 : Int) := of_decide_eq_true (by first | (with_reducible assumption) | assumption)
         have q571 : x8_1 < (l1.length : Int) := of_decide_eq_true (by first | (with_reducible assumption) | assumption)
         obtain ⟨ad571, e571, hx571_0⟩ := Kd.at_int HR1.out x8_1 p571 q571
         obtain rfl : ad569 = ad571 := (by injection e571)
         replace p571 := eq_true p571
         replace q571 := eq_true q571
         go_wp2
         repeat (go_quiet (fail); try go_wp2)
         go_ret
         exact ⟨by first | rfl | (simp; done) | (simp [*]; done), by repeat (first | exact Drawn0.refl _ | apply Drawn0.step)⟩
        ·rw [if_neg c8] at H
         have c8b0 : decide ((rd l0 x8_1) < (rd l1 x8_1)) = false := decide_eq_false c8
         clear c8
         obtain rfl := Option.some.inj H
         have p568 : 0 ≤ (x8_1 : Int) := of_decide_eq_true (by first | (with_reducible assumption) | assumption)
         have q568 : x8_1 < (l0.length : Int) := of_decide_eq_true (by first | (with_reducible assumption) | assumption)
         obtain ⟨ad568, e568, hx568_0⟩ := Kd.at_int HR0.out x8_1 p568 q568
         cases e568
         replace p568 := eq_true p568
         replace q568 := eq_true q568
         have p569 : 0 ≤ (x8_1 : Int) := of_decide_eq_true (by first | (with_reducible assumption) | assumption)
         have q569 : x8_1 < (l1.length : Int) := of_decide_eq_true (by first | (with_reducible assumption) | assumption)
         obtain ⟨ad569, e569, hx569_0⟩ := Kd.at_int HR1.out x8_1 p569 q569
         cases e569
         replace p569 := eq_true p569
         replace q569 := eq_true q569
         have p570 : 0 ≤ (x8_1 : Int) := of_decide_eq_true (by first | (with_reducible assumption) | assumption)
         have q570 : x8_1 < (l0.length : Int) := of_decide_eq_true (by first | (with_reducible assumption) | assumption)
         obtain ⟨ad570, e570, hx570_0⟩ := Kd.at_int HR0.out x8_1 p570 q570
         obtain rfl : ad568 = ad570 := (by injection e570)
         replace p570 := eq_true p570
         replace q570 := eq_true q570
         have p571 : 0 ≤ (x8_1 : Int) := of_decide_eq_true (by first | (with_reducible assumption) | assumption)
         have q571 : x8_1 < (l1.length : Int) := of_decide_eq_true (by first | (with_reducible assumption) | assumption)
         obtain ⟨ad571, e571, hx571_0⟩ := Kd.at_int HR1.out x8_1 p571 q571
         obtain rfl : ad569 = ad571 := (by injection e571)
         replace p571 := eq_true p571
         replace q571 := eq_true q571
         go_wp2
         repeat (go_quiet (fail); try go_wp2)
         go_ret
         exact ⟨by first | rfl | (simp; done) | (simp [*]; done), by repeat (first | exact Drawn0.refl _ | apply Drawn0.step)⟩
      ·rw [if_neg c6] at H
       exact absurd H (by simp)
     ·rw [if_neg c5] at H
      exact absurd H (by simp)
    ·rw [if_neg c4] at H
     exact absurd H (by simp)
   ·rw [if_neg c3] at H
    have c3b0 : decide (x8_1 < (l0.length : Int)) = false := decide_eq_false c3
    clear c3
    obtain rfl := Option.some.inj H
    go_wp2
    repeat (go_quiet (fail); try go_wp2)
    go_ret
    exact ⟨by first | rfl | (simp; done) | (simp [*]; done), by repeat (first | exact Drawn0.refl _ | apply Drawn0.step)⟩

/-! ### impl_compareVecs: function 130 -/
def impl_compareVecs.f (k : Nat) (a0_0 : Int) (a0_1 : Int) (a1_0 : Int) (a1_1 : Int) : Option (Int) := (impl_compareNumbers.f k (([a0_0, a0_1] : List Int)) (([a1_0, a1_1] : List Int))).bind fun t580 => (some t580)
set_option maxHeartbeats 8000000 in
set_option maxRecDepth 100000 in
theorem impl_compareVecs.calls (k : Nat) (a0_0 : Int) (a0_1 : Int) (a1_0 : Int) (a1_1 : Int) (r : Int) (w : World) (h : impl_compareVecs.f k a0_0 a0_1 a1_0 a1_1 = some r) :
  Calls Try.prog 130 #[.agg #[.int .i64 a0_0, .int .i64 a0_1], .agg #[.int .i64 a1_0, .int .i64 a1_1]] w fun e w' => e = .returned (.int .i64 r) ∧ Below w.heap.size w w' := by
 have hu34 := Try.underlying34
 have HB := Aside0.mk (Below.refl w.heap.size w)
 have H : ((impl_compareNumbers.f k (([a0_0, a0_1] : List Int)) (([a1_0, a1_1] : List Int))).bind fun t580 => (some t580)) = some r := h
 clear h
 obtain ⟨y574, hy574⟩ : ∃ y_ : List Int, y_ = (([a0_0, a0_1] : List Int)) := ⟨_, rfl⟩
 replace H : ((impl_compareNumbers.f k y574 (([a1_0, a1_1] : List Int))).bind fun t580 => (some t580)) = some r := by first | (rw [hy574]; with_reducible exact H) | (have H2_ := (Option.bind_some _ _).symm.trans H; rw [hy574]; with_reducible exact H2_) | (have H2_ := (Option.bind_some _ _).symm.trans H; with_reducible exact H2_) | with_reducible exact H | (rw [hy574]; exact H) | exact H
 have Ny574 := Aside0.mk hy574
 clear hy574
 obtain ⟨y577, hy577⟩ : ∃ y_ : List Int, y_ = (([a1_0, a1_1] : List Int)) := ⟨_, rfl⟩
 replace H : ((impl_compareNumbers.f k y574 y577).bind fun t580 => (some t580)) = some r := by first | (rw [hy577]; with_reducible exact H) | (have H2_ := (Option.bind_some _ _).symm.trans H; rw [hy577]; with_reducible exact H2_) | (have H2_ := (Option.bind_some _ _).symm.trans H; with_reducible exact H2_) | with_reducible exact H | (rw [hy577]; exact H) | exact H
 have Ny577 := Aside0.mk hy577
 clear hy577
 replace H := Option.bind_eq_some_iff.mp H
 obtain ⟨t580, A30, H⟩ := H
 replace H : (some t580) = some r := H
 have A3 := Aside0.mk A30
 clear A30
 obtain rfl := Option.some.inj H
 go_enter Try.func130, Try.ntmps130
 go_wp2_with (first | ((with_reducible refine gate_dst (N := 2) rfl ?_); refine box_event ?hg (N := 2) ?hd (cs := #[.int .i64 a0_0, .int .i64 a0_1]) (t := 34) ?hr ?_; (case hd => rfl); (case hg => rfl); (case hr => first | (go_simp; done) | (go_simp; rfl)); intro gb572 hg w4 hbox hb; have n0_ := Aside0.mk (bst0 HB hb); have n1_ := Aside0.mk (hbox); have n2_ := ngw0 hg HB; have n3_ := n2_; clear HB; have HB := n0_; have BK572 := n1_; have GW572 := n2_; have GE572 := n3_; clear n0_ n1_ n2_ n3_; clear hb hbox hg) | ((with_reducible refine gate_dst (N := 3) rfl ?_); refine box_event ?hg (N := 3) ?hd (cs := #[.int .i64 a1_0, .int .i64 a1_1]) (t := 34) ?hr ?_; (case hd => rfl); (case hg => rfl); (case hr => first | (go_simp; done) | (go_simp; rfl)); intro gb573 hg w5 hbox hb; have n0_ := Aside0.mk (bbl BK572 hb); have n1_ := Aside0.mk (bst1 HB GE572 hb); have n2_ := Aside0.mk (hbox); have n3_ := ngw1 hg HB GE572; have n4_ := n3_; have n5_ := nlt hg BK572; have n6_ := nsy (nlt hg BK572); clear BK572; clear HB; have BK572 := n0_; have HB := n1_; have BK573 := n2_; have GW573 := n3_; have GE573 := n4_; have NB572_573 := n5_; have NB573_572 := n6_; clear n0_ n1_ n2_ n3_ n4_ n5_ n6_; clear hb hbox hg; have hnb6 := NB572_573.out; have hnc6 := NB573_572.out; have hcz7_0 : w5.cell? ⟨gb572, 0, none⟩ = some (.int .i64 a0_0) := bcl BK572 0; have hcz7_1 : w5.cell? ⟨gb572, 1, none⟩ = some (.int .i64 a0_1) := bcl BK572 1; have hfz7_0 := blk_frozen BK572.out 0; have hfz7_1 := blk_frozen BK572.out 1) | ((with_reducible refine gate_dst (N := 9) rfl ?_); refine Kd.R_lit (Kd.int .i64) _ 2 ?hg (N := 9) ?hd (xs := ([a0_0, a0_1] : List Int)) (inner := [.int .i64 a0_0, .int .i64 a0_1]) (ok := fun _ => True) (okp := fun _ => True) ?hr ?hp (fun _ hk => hk) trivial (Below.refl _ _) (Nat.le_refl _) (by simp) ?_; (case hd => rfl); (case hg => rfl); (case hr => first | (go_simp; done) | (go_simp; rfl)); (case hp => exact (Reps.one (show Kd.M (Kd.int .i64) _ _ _ a0_0 [.int .i64 a0_0] from rfl) (Reps.one (show Kd.M (Kd.int .i64) _ _ _ a0_1 [.int .i64 a0_1] from rfl) (Reps.none _ _)))); intro v575 w8 ho9 hb hg_ hnew_; clear hg_ hnew_; (first | rw [← Ny574.out] at ho9 | (simp only [Int.reduceToNat] at ho9; rw [← Ny574.out] at ho9)); have n0_ := Aside0.mk (Kd.R_lower ho9 (bsz2 HB GE572 GE573)); have n1_ := Aside0.mk (bbl BK572 hb); have n2_ := Aside0.mk (bbl BK573 hb); have n3_ := Aside0.mk (bst2 HB GE572 GE573 hb); clear BK572; clear BK573; clear HB; have HO576 := n0_; have BK572 := n1_; have BK573 := n2_; have HB := n3_; clear n0_ n1_ n2_ n3_; clear hb ho9; have hcz10_0 : w8.cell? ⟨gb573, 0, none⟩ = some (.int .i64 a1_0) := bcl BK573 0; have hcz10_1 : w8.cell? ⟨gb573, 1, none⟩ = some (.int .i64 a1_1) := bcl BK573 1; have hfz10_0 := blk_frozen BK573.out 0; have hfz10_1 := blk_frozen BK573.out 1) | ((with_reducible refine gate_dst (N := 14) rfl ?_); refine Kd.R_lit (Kd.int .i64) _ 2 ?hg (N := 14) ?hd (xs := ([a1_0, a1_1] : List Int)) (inner := [.int .i64 a1_0, .int .i64 a1_1]) (ok := fun _ => True) (okp := fun _ => True) ?hr ?hp (fun _ hk => hk) trivial (Below.refl _ _) (Nat.le_refl _) (by simp) ?_; (case hd => rfl); (case hg => rfl); (case hr => first | (go_simp; done) | (go_simp; rfl)); (case hp => exact (Reps.one (show Kd.M (Kd.int .i64) _ _ _ a1_0 [.int .i64 a1_0] from rfl) (Reps.one (show Kd.M (Kd.int .i64) _ _ _ a1_1 [.int .i64 a1_1] from rfl) (Reps.none _ _)))); intro v578 w11 ho12 hb hg_ hnew_; clear hg_ hnew_; (first | rw [← Ny577.out] at ho12 | (simp only [Int.reduceToNat] at ho12; rw [← Ny577.out] at ho12)); have n0_ := Aside0.mk (Kd.R_elder' (by (with_reducible repeat (first | apply Kd.R_alloc | apply Kd.R_drewN | apply Kd.R_drew)); exact HO576.out) (Kd.R_base ho12) hb); have n1_ := Aside0.mk (Kd.R_lower (Kd.R_new' ho12 (Kd.R_lt (by (with_reducible repeat (first | apply Kd.R_alloc | apply Kd.R_drewN | apply Kd.R_drew)); exact HO576.out))) (bsz2 HB GE572 GE573)); have n2_ := Aside0.mk (bbl BK572 hb); have n3_ := Aside0.mk (bbl BK573 hb); have n4_ := Aside0.mk (bst2 HB GE572 GE573 hb); clear HO576; clear BK572; clear BK573; clear HB; have HO576 := n0_; have HO579 := n1_; have BK572 := n2_; have BK573 := n3_; have HB := n4_; clear n0_ n1_ n2_ n3_ n4_; clear hb ho12; obtain ⟨Ao13, co13, eo13⟩ := Kd.R_slice HO576.out; subst eo13; obtain ⟨Ao14, co14, eo14⟩ := Kd.R_slice HO579.out; subst eo14) | ((with_reducible refine gate_callee (f := 142) rfl ?_); refine goesL_ (some 15) rfl rfl Try.func142 (by kernel_rfl) rfl #[.slice Ao13 y574.length co13, .slice Ao14 y577.length co14] rfl (by (try simp only [List.map_toArray, List.map_cons, List.map_nil]); first | done | rfl | (simp only [List.length_drop, List.length_take]; rfl)) ?_; (with_reducible refine (impl_compareNumbers.calls k _ _ y574 _ _ y577 t580 _ ?side1 ?side2 ?side3 ?side4 A3.out).mono ?_); (case side1 => repeat (first | exact (Kd.R_reads' HO576.out).2.2 | (with_reducible refine Kd.C_alloc ?_ _) | (with_reducible refine Kd.C_drewN ?_ _) | (with_reducible refine Kd.C_drew ?_))); (case side2 => exact (Kd.R_reads' HO576.out).2.1); (case side3 => repeat (first | exact (Kd.R_reads' HO579.out).2.2 | (with_reducible refine Kd.C_alloc ?_ _) | (with_reducible refine Kd.C_drewN ?_ _) | (with_reducible refine Kd.C_drew ?_))); (case side4 => exact (Kd.R_reads' HO579.out).2.1); rintro e w' ⟨rfl, ⟨nd, rfl⟩⟩; refine ⟨_, rfl, ?_⟩))
 go_ret
 exact ⟨by first | rfl | (simp [errW_none, errW_some] <;> rfl) | (simp [*, errW_none, errW_some] <;> rfl), bbw2 HB GE572 GE573⟩

/-! ### impl_Vec_times: function 131 -/
def impl_Vec_times.f (a0_0 : Int) (a0_1 : Int) (a1 : Int) : Option (Int × Int) := some (wrap64 (a1 * a0_0), wrap64 (a1 * a0_1))
set_option maxHeartbeats 8000000 in
set_option maxRecDepth 100000 in
theorem impl_Vec_times.calls (a0_0 : Int) (a0_1 : Int) (a1 : Int) (r1 : Int) (r2 : Int) (w : World) (h : impl_Vec_times.f a0_0 a0_1 a1 = some (r1, r2)) :
  Calls Try.prog 131 #[.agg #[.int .i64 a0_0, .int .i64 a0_1], .int .i64 a1] w fun e w' => e = .returned (.agg #[.int .i64 r1, .int .i64 r2]) ∧ Below w.heap.size w w' := by
 have hu34 := Try.underlying34
 have HB := Aside0.mk (Below.refl w.heap.size w)
 have H : (some (wrap64 (a1 * a0_0), wrap64 (a1 * a0_1))) = some (r1, r2) := h
 clear h
 simp only [Option.some.injEq, Prod.mk.injEq] at H
 obtain ⟨rfl, rfl⟩ := H
 go_enter Try.func131, Try.ntmps131
 go_wp2_with (first | ((with_reducible refine gate_dst (N := 2) rfl ?_); refine box_event ?hg (N := 2) ?hd (cs := #[.int .i64 a0_0, .int .i64 a0_1]) (t := 34) ?hr ?_; (case hd => rfl); (case hg => rfl); (case hr => first | (go_simp; done) | (go_simp; rfl)); intro gb581 hg w3 hbox hb; have n0_ := Aside0.mk (bst0 HB hb); have n1_ := Aside0.mk (hbox); have n2_ := ngw0 hg HB; have n3_ := n2_; clear HB; have HB := n0_; have BK581 := n1_; have GW581 := n2_; have GE581 := n3_; clear n0_ n1_ n2_ n3_; clear hb hbox hg) | ((with_reducible refine gate_dst (N := 4) rfl ?_); refine box_event ?hg (N := 4) ?hd (cs := #[.int .i64 0, .int .i64 0]) (t := 34) ?hr ?_; (case hd => rfl); (case hg => rfl); (case hr => first | (go_simp; done) | (go_simp; rfl)); intro gb582 hg w4 hbox hb; have n0_ := Aside0.mk (bbl BK581 hb); have n1_ := Aside0.mk (bst1 HB GE581 hb); have n2_ := Aside0.mk (hbox); have n3_ := ngw1 hg HB GE581; have n4_ := n3_; have n5_ := nlt hg BK581; have n6_ := nsy (nlt hg BK581); clear BK581; clear HB; have BK581 := n0_; have HB := n1_; have BK582 := n2_; have GW582 := n3_; have GE582 := n4_; have NB581_582 := n5_; have NB582_581 := n6_; clear n0_ n1_ n2_ n3_ n4_ n5_ n6_; clear hb hbox hg; have hnb5 := NB581_582.out; have hnc5 := NB582_581.out; have hcz6_0 : w4.cell? ⟨gb581, 0, none⟩ = some (.int .i64 a0_0) := bcl BK581 0; have hcz6_1 : w4.cell? ⟨gb581, 1, none⟩ = some (.int .i64 a0_1) := bcl BK581 1; have hfz6_0 := blk_frozen BK581.out 0; have hfz6_1 := blk_frozen BK581.out 1; have hcz7_0 : w4.cell? ⟨gb582, 0, none⟩ = some (.int .i64 0) := bcl BK582 0; have hcz7_1 : w4.cell? ⟨gb582, 1, none⟩ = some (.int .i64 0) := bcl BK582 1; have hfz7_0 := blk_frozen BK582.out 0; have hfz7_1 := blk_frozen BK582.out 1))
 refine bodyPost_ret (results_cell_row rfl _ _ gb582 34 #[.int .i64 (wrap64 (a1 * a0_0)), .int .i64 (wrap64 (a1 * a0_1))] (0, 0) _ rfl (by (with_reducible repeat (first | refine blk_drewN ?_ _ | refine blk_drew ?_ | refine blk_alloc ?_ _)); refine blk_put (cs := #[.int .i64 (wrap64 (a1 * a0_0)), .int .i64 0]) ?_ 1 _ rfl; (with_reducible repeat (first | refine blk_drewN ?_ _ | refine blk_drew ?_ | refine blk_alloc ?_ _)); refine blk_put (cs := #[.int .i64 0, .int .i64 0]) ?_ 0 _ rfl; (with_reducible repeat (first | refine blk_drewN ?_ _ | refine blk_drew ?_ | refine blk_alloc ?_ _)); exact BK582.out) Try.underlying34 rfl (by kernel_rfl)) rfl ?_
 exact ⟨by first | rfl | (simp [errW_none, errW_some] <;> rfl) | (simp [*, errW_none, errW_some] <;> rfl), bbw2 HB GE581 GE582⟩

/-! ### impl_limited: function 132 -/
def impl_limited.f (a0_0 : Int) (a0_1 : Int) : Option (Int × Int × Int) := (impl_IsVec.f a0_0 a0_1).bind fun t585 => (if t585 = true then (some (a0_0, a0_1, 0)) else (some (0, 0, 3)))
set_option maxHeartbeats 8000000 in
set_option maxRecDepth 100000 in
theorem impl_limited.calls (a0_0 : Int) (a0_1 : Int) (r1 : Int) (r2 : Int) (r3 : Int) (w : World) (h : impl_limited.f a0_0 a0_1 = some (r1, r2, r3)) :
  Calls Try.prog 132 #[.agg #[.int .i64 a0_0, .int .i64 a0_1]] w fun e w' => e = .returned (.tuple #[.agg #[.int .i64 r1, .int .i64 r2], .int .i64 r3]) ∧ Below w.heap.size w w' := by
 have hu34 := Try.underlying34
 have HB := Aside0.mk (Below.refl w.heap.size w)
 have H : ((impl_IsVec.f a0_0 a0_1).bind fun t585 => (if t585 = true then (some (a0_0, a0_1, 0)) else (some (0, 0, 3)))) = some (r1, r2, r3) := h
 clear h
 replace H := Option.bind_eq_some_iff.mp H
 obtain ⟨t585, A20, H⟩ := H
 replace H : (if t585 = true then (some (a0_0, a0_1, 0)) else (some (0, 0, 3))) = some (r1, r2, r3) := H
 have A2 := Aside0.mk A20
 clear A20
 by_cases c3 : t585 = true
 ·subst c3
  have H1 : (some (a0_0, a0_1, 0)) = some (r1, r2, r3) := by rw [if_pos rfl] at H; first | done | exact H
  clear H
  have H := H1
  clear H1
  simp only [Option.some.injEq, Prod.mk.injEq] at H
  obtain ⟨rfl, rfl, rfl⟩ := H
  go_enter Try.func132, Try.ntmps132
  go_wp2_with (first | ((with_reducible refine gate_dst (N := 1) rfl ?_); refine box_event ?hg (N := 1) ?hd (cs := #[.int .i64 a0_0, .int .i64 a0_1]) (t := 34) ?hr ?_; (case hd => rfl); (case hg => rfl); (case hr => first | (go_simp; done) | (go_simp; rfl)); intro gb583 hg w4 hbox hb; have n0_ := Aside0.mk (bst0 HB hb); have n1_ := Aside0.mk (hbox); have n2_ := ngw0 hg HB; have n3_ := n2_; clear HB; have HB := n0_; have BK583 := n1_; have GW583 := n2_; have GE583 := n3_; clear n0_ n1_ n2_ n3_; clear hb hbox hg) | ((with_reducible refine gate_dst (N := 2) rfl ?_); refine box_event ?hg (N := 2) ?hd (cs := #[.int .i64 0, .int .i64 0]) (t := 34) ?hr ?_; (case hd => rfl); (case hg => rfl); (case hr => first | (go_simp; done) | (go_simp; rfl)); intro gb584 hg w5 hbox hb; have n0_ := Aside0.mk (bbl BK583 hb); have n1_ := Aside0.mk (bst1 HB GE583 hb); have n2_ := Aside0.mk (hbox); have n3_ := ngw1 hg HB GE583; have n4_ := n3_; have n5_ := nlt hg BK583; have n6_ := nsy (nlt hg BK583); clear BK583; clear HB; have BK583 := n0_; have HB := n1_; have BK584 := n2_; have GW584 := n3_; have GE584 := n4_; have NB583_584 := n5_; have NB584_583 := n6_; clear n0_ n1_ n2_ n3_ n4_ n5_ n6_; clear hb hbox hg; have hnb6 := NB583_584.out; have hnc6 := NB584_583.out; have hcz7_0 : w5.cell? ⟨gb583, 0, none⟩ = some (.int .i64 a0_0) := bcl BK583 0; have hcz7_1 : w5.cell? ⟨gb583, 1, none⟩ = some (.int .i64 a0_1) := bcl BK583 1; have hfz7_0 := blk_frozen BK583.out 0; have hfz7_1 := blk_frozen BK583.out 1) | ((with_reducible refine gate_callee (f := 81) rfl ?_); refine goesL_ (some 5) rfl rfl Try.func81 (by kernel_rfl) rfl #[.agg #[.int .i64 a0_0, .int .i64 a0_1]] rfl (by (try simp only [List.map_toArray, List.map_cons, List.map_nil]); first | done | rfl | (simp only [List.length_drop, List.length_take]; rfl)) ?_; (with_reducible refine (impl_IsVec.calls a0_0 a0_1 true _ A2.out).mono ?_); rintro e w8 ⟨rfl, hb⟩; refine ⟨_, rfl, ?_⟩; have n0_ := Aside0.mk (bbl BK583 hb); have n1_ := Aside0.mk (bbl BK584 hb); have n2_ := Aside0.mk (bst2 HB GE583 GE584 hb); clear BK583; clear BK584; clear HB; have BK583 := n0_; have BK584 := n1_; have HB := n2_; clear n0_ n1_ n2_; (try clear hb); (try clear hb2); (try clear hk); (try clear hi); have hcz9_0 : w8.cell? ⟨gb583, 0, none⟩ = some (.int .i64 a0_0) := bcl BK583 0; have hcz9_1 : w8.cell? ⟨gb583, 1, none⟩ = some (.int .i64 a0_1) := bcl BK583 1; have hfz9_0 := blk_frozen BK583.out 0; have hfz9_1 := blk_frozen BK583.out 1; have hcz10_0 : w8.cell? ⟨gb584, 0, none⟩ = some (.int .i64 0) := bcl BK584 0; have hcz10_1 : w8.cell? ⟨gb584, 1, none⟩ = some (.int .i64 0) := bcl BK584 1; have hfz10_0 := blk_frozen BK584.out 0; have hfz10_1 := blk_frozen BK584.out 1))
  refine bodyPost_ret (results_ct rfl _ _ gb584 34 #[.int .i64 a0_0, .int .i64 a0_1] (0, 0) _ rfl (by (with_reducible repeat (first | refine blk_drewN ?_ _ | refine blk_drew ?_ | refine blk_alloc ?_ _)); refine blk_put (cs := #[.int .i64 a0_0, .int .i64 0]) ?_ 1 _ rfl; (with_reducible repeat (first | refine blk_drewN ?_ _ | refine blk_drew ?_ | refine blk_alloc ?_ _)); refine blk_put (cs := #[.int .i64 0, .int .i64 0]) ?_ 0 _ rfl; (with_reducible repeat (first | refine blk_drewN ?_ _ | refine blk_drew ?_ | refine blk_alloc ?_ _)); exact BK584.out) Try.underlying34 rfl (by kernel_rfl)) rfl ?_
  exact ⟨by first | rfl | (simp [errW_none, errW_some] <;> rfl) | (simp [*, errW_none, errW_some] <;> rfl), bbw2 HB GE583 GE584⟩
 ·replace c3 := Bool.eq_false_iff.mpr c3
  subst c3
  have H1 : (some (0, 0, 3)) = some (r1, r2, r3) := by rw [if_neg (show ¬ (false = true) by decide)] at H; first | done | exact H
  clear H
  have H := H1
  clear H1
  simp only [Option.some.injEq, Prod.mk.injEq] at H
  obtain ⟨rfl, rfl, rfl⟩ := H
  go_enter Try.func132, Try.ntmps132
  go_wp2_with (first | ((with_reducible refine gate_dst (N := 1) rfl ?_); refine box_event ?hg (N := 1) ?hd (cs := #[.int .i64 a0_0, .int .i64 a0_1]) (t := 34) ?hr ?_; (case hd => rfl); (case hg => rfl); (case hr => first | (go_simp; done) | (go_simp; rfl)); intro gb583 hg w11 hbox hb; have n0_ := Aside0.mk (bst0 HB hb); have n1_ := Aside0.mk (hbox); have n2_ := ngw0 hg HB; have n3_ := n2_; clear HB; have HB := n0_; have BK583 := n1_; have GW583 := n2_; have GE583 := n3_; clear n0_ n1_ n2_ n3_; clear hb hbox hg) | ((with_reducible refine gate_dst (N := 2) rfl ?_); refine box_event ?hg (N := 2) ?hd (cs := #[.int .i64 0, .int .i64 0]) (t := 34) ?hr ?_; (case hd => rfl); (case hg => rfl); (case hr => first | (go_simp; done) | (go_simp; rfl)); intro gb584 hg w12 hbox hb; have n0_ := Aside0.mk (bbl BK583 hb); have n1_ := Aside0.mk (bst1 HB GE583 hb); have n2_ := Aside0.mk (hbox); have n3_ := ngw1 hg HB GE583; have n4_ := n3_; have n5_ := nlt hg BK583; have n6_ := nsy (nlt hg BK583); clear BK583; clear HB; have BK583 := n0_; have HB := n1_; have BK584 := n2_; have GW584 := n3_; have GE584 := n4_; have NB583_584 := n5_; have NB584_583 := n6_; clear n0_ n1_ n2_ n3_ n4_ n5_ n6_; clear hb hbox hg; have hnb13 := NB583_584.out; have hnc13 := NB584_583.out; have hcz14_0 : w12.cell? ⟨gb583, 0, none⟩ = some (.int .i64 a0_0) := bcl BK583 0; have hcz14_1 : w12.cell? ⟨gb583, 1, none⟩ = some (.int .i64 a0_1) := bcl BK583 1; have hfz14_0 := blk_frozen BK583.out 0; have hfz14_1 := blk_frozen BK583.out 1) | ((with_reducible refine gate_callee (f := 81) rfl ?_); refine goesL_ (some 5) rfl rfl Try.func81 (by kernel_rfl) rfl #[.agg #[.int .i64 a0_0, .int .i64 a0_1]] rfl (by (try simp only [List.map_toArray, List.map_cons, List.map_nil]); first | done | rfl | (simp only [List.length_drop, List.length_take]; rfl)) ?_; (with_reducible refine (impl_IsVec.calls a0_0 a0_1 false _ A2.out).mono ?_); rintro e w15 ⟨rfl, hb⟩; refine ⟨_, rfl, ?_⟩; have n0_ := Aside0.mk (bbl BK583 hb); have n1_ := Aside0.mk (bbl BK584 hb); have n2_ := Aside0.mk (bst2 HB GE583 GE584 hb); clear BK583; clear BK584; clear HB; have BK583 := n0_; have BK584 := n1_; have HB := n2_; clear n0_ n1_ n2_; (try clear hb); (try clear hb2); (try clear hk); (try clear hi); have hcz16_0 : w15.cell? ⟨gb584, 0, none⟩ = some (.int .i64 0) := bcl BK584 0; have hcz16_1 : w15.cell? ⟨gb584, 1, none⟩ = some (.int .i64 0) := bcl BK584 1; have hfz16_0 := blk_frozen BK584.out 0; have hfz16_1 := blk_frozen BK584.out 1))
  refine bodyPost_ret (results_ct rfl _ _ gb584 34 #[.int .i64 0, .int .i64 0] (0, 0) _ rfl (by (with_reducible repeat (first | refine blk_drewN ?_ _ | refine blk_drew ?_ | refine blk_alloc ?_ _)); refine blk_put (cs := #[.int .i64 0, .int .i64 0]) ?_ 1 _ rfl; (with_reducible repeat (first | refine blk_drewN ?_ _ | refine blk_drew ?_ | refine blk_alloc ?_ _)); refine blk_put (cs := #[.int .i64 0, .int .i64 0]) ?_ 0 _ rfl; (with_reducible repeat (first | refine blk_drewN ?_ _ | refine blk_drew ?_ | refine blk_alloc ?_ _)); exact BK584.out) Try.underlying34 rfl (by kernel_rfl)) rfl ?_
  exact ⟨by first | rfl | (simp [errW_none, errW_some] <;> rfl) | (simp [*, errW_none, errW_some] <;> rfl), bbw2 HB GE583 GE584⟩

attribute [local go_sem high] eqA34
/-! ### impl_AxisOf: function 95 -/
def impl_AxisOf.j0 : Nat → Int → Int → Option (Int × Int × Int)
 | 0, _, _ => none
 | k + 1, x591000, x591001 => (impl_gcd.f k x591000 x591001).bind fun t591 => (if t591 = 0 then (none) else ((impl_compareVecs.f k (wrap64 (Int.tdiv x591000 t591)) (wrap64 (Int.tdiv x591001 t591)) 0 0).bind fun t592 => (if t592 < 0 then ((impl_Vec_times.f (wrap64 (Int.tdiv x591000 t591)) (wrap64 (Int.tdiv x591001 t591)) (-1)).bind fun bt593 => ((impl_limited.f bt593.1 bt593.2).bind fun bt595 => (some (bt595.1, bt595.2.1, bt595.2.2)))) else ((impl_limited.f (wrap64 (Int.tdiv x591000 t591)) (wrap64 (Int.tdiv x591001 t591))).bind fun bt598 => (some (bt598.1, bt598.2.1, bt598.2.2))))))
def impl_AxisOf.f (k : Nat) (a0_0 : Int) (a0_1 : Int) (a0_2 : Int) (a0_3 : Int) : Option (Int × Int × Int) := (impl_IsMat.f a0_0 a0_1 a0_2 a0_3).bind fun t588 => (if t588 = true then ((impl_Mat_isReflection.f k a0_0 a0_1 a0_2 a0_3).bind fun t589 => (if t589 = true then (if (a0_1 == 0 && ((wrap64 (1 - a0_0)) == 0)) = true then (impl_AxisOf.j0 k (wrap64 (1 - a0_3)) a0_2) else (impl_AxisOf.j0 k a0_1 (wrap64 (1 - a0_0)))) else (some (0, 0, 5)))) else (some (0, 0, 1)))
def impl_AxisOf.T9 : Bool × List (List Nat × List Nat) := (true, [([], []), ([0], [0]), ([], []), ([1, 2], [1, 2]), ([], []), ([4], [4]), ([], []), ([5, 6], [5, 6]), ([3, 7], [3, 7]), ([8, 0, 1, 2, 3, 4, 5, 6, 7, 8], [8])])
def impl_AxisOf.B9 : List Nat := [0, 1, 0, 7, 0, 16, 0, 112, 255, 511]
theorem impl_AxisOf.tab9 : rtab .any (opsOf Try.f95 9) = impl_AxisOf.T9 := by kernel_rfl
theorem impl_AxisOf.bits9 : waitsOk impl_AxisOf.T9.2 impl_AxisOf.B9 = true := by kernel_rfl
set_option maxHeartbeats 8000000 in
set_option maxRecDepth 100000 in
theorem impl_AxisOf.calls (k : Nat) (a0_0 : Int) (a0_1 : Int) (a0_2 : Int) (a0_3 : Int) (r1 : Int) (r2 : Int) (r3 : Int) (w : World) (h : impl_AxisOf.f k a0_0 a0_1 a0_2 a0_3 = some (r1, r2, r3)) :
  Calls Try.prog 95 #[.agg #[.int .i64 a0_0, .int .i64 a0_1, .int .i64 a0_2, .int .i64 a0_3]] w fun e w' => e = .returned (.tuple #[.agg #[.int .i64 r1, .int .i64 r2], .int .i64 r3]) ∧ Below w.heap.size w w' := by
 have hu33 := Try.underlying33
 have hu34 := Try.underlying34
 have HB := Aside0.mk (Below.refl w.heap.size w)
 have H : ((impl_IsMat.f a0_0 a0_1 a0_2 a0_3).bind fun t588 => (if t588 = true then ((impl_Mat_isReflection.f k a0_0 a0_1 a0_2 a0_3).bind fun t589 => (if t589 = true then (if (a0_1 == 0 && ((wrap64 (1 - a0_0)) == 0)) = true then (impl_AxisOf.j0 k (wrap64 (1 - a0_3)) a0_2) else (impl_AxisOf.j0 k a0_1 (wrap64 (1 - a0_0)))) else (some (0, 0, 5)))) else (some (0, 0, 1)))) = some (r1, r2, r3) := h
 clear h
 replace H := Option.bind_eq_some_iff.mp H
 obtain ⟨t588, A20, H⟩ := H
 replace H : (if t588 = true then ((impl_Mat_isReflection.f k a0_0 a0_1 a0_2 a0_3).bind fun t589 => (if t589 = true then (if (a0_1 == 0 && ((wrap64 (1 - a0_0)) == 0)) = true then (impl_AxisOf.j0 k (wrap64 (1 - a0_3)) a0_2) else (impl_AxisOf.j0 k a0_1 (wrap64 (1 - a0_0)))) else (some (0, 0, 5)))) else (some (0, 0, 1))) = some (r1, r2, r3) := H
 have A2 := Aside0.mk A20
 clear A20
 by_cases c3 : t588 = true
 ·subst c3
  have H1 : ((impl_Mat_isReflection.f k a0_0 a0_1 a0_2 a0_3).bind fun t589 => (if t589 = true then (if (a0_1 == 0 && ((wrap64 (1 - a0_0)) == 0)) = true then (impl_AxisOf.j0 k (wrap64 (1 - a0_3)) a0_2) else (impl_AxisOf.j0 k a0_1 (wrap64 (1 - a0_0)))) else (some (0, 0, 5)))) = some (r1, r2, r3) := by rw [if_pos rfl] at H; first | done | exact H
  clear H
  have H := H1
  clear H1
  replace H := Option.bind_eq_some_iff.mp H
  obtain ⟨t589, A40, H⟩ := H
  replace H : (if t589 = true then (if (a0_1 == 0 && ((wrap64 (1 - a0_0)) == 0)) = true then (impl_AxisOf.j0 k (wrap64 (1 - a0_3)) a0_2) else (impl_AxisOf.j0 k a0_1 (wrap64 (1 - a0_0)))) else (some (0, 0, 5))) = some (r1, r2, r3) := H
  have A4 := Aside0.mk A40
  clear A40
  by_cases c5 : t589 = true
  ·subst c5
   have H1 : (if (a0_1 == 0 && ((wrap64 (1 - a0_0)) == 0)) = true then (impl_AxisOf.j0 k (wrap64 (1 - a0_3)) a0_2) else (impl_AxisOf.j0 k a0_1 (wrap64 (1 - a0_0)))) = some (r1, r2, r3) := by rw [if_pos rfl] at H; first | done | exact H
   clear H
   have H := H1
   clear H1
   have HC6 := Aside0.mk H
   clear H
   go_enter Try.func95, Try.ntmps95
   go_upto_if 22 with (first | ((with_reducible refine gate_dst (N := 1) rfl ?_); refine box_event ?hg (N := 1) ?hd (cs := #[.int .i64 a0_0, .int .i64 a0_1, .int .i64 a0_2, .int .i64 a0_3]) (t := 33) ?hr ?_; (case hd => rfl); (case hg => rfl); (case hr => first | (go_simp; done) | (go_simp; rfl)); intro gb586 hg w7 hbox hb; have n0_ := Aside0.mk (bst0 HB hb); have n1_ := Aside0.mk (hbox); have n2_ := ngw0 hg HB; have n3_ := n2_; clear HB; have HB := n0_; have BK586 := n1_; have GW586 := n2_; have GE586 := n3_; clear n0_ n1_ n2_ n3_; clear hb hbox hg) | ((with_reducible refine gate_dst (N := 2) rfl ?_); refine box_event ?hg (N := 2) ?hd (cs := #[.int .i64 0, .int .i64 0]) (t := 34) ?hr ?_; (case hd => rfl); (case hg => rfl); (case hr => first | (go_simp; done) | (go_simp; rfl)); intro gb587 hg w8 hbox hb; have n0_ := Aside0.mk (bbl BK586 hb); have n1_ := Aside0.mk (bst1 HB GE586 hb); have n2_ := Aside0.mk (hbox); have n3_ := ngw1 hg HB GE586; have n4_ := n3_; have n5_ := nlt hg BK586; have n6_ := nsy (nlt hg BK586); clear BK586; clear HB; have BK586 := n0_; have HB := n1_; have BK587 := n2_; have GW587 := n3_; have GE587 := n4_; have NB586_587 := n5_; have NB587_586 := n6_; clear n0_ n1_ n2_ n3_ n4_ n5_ n6_; clear hb hbox hg; have hnb9 := NB586_587.out; have hnc9 := NB587_586.out; have hcz10_0 : w8.cell? ⟨gb586, 0, none⟩ = some (.int .i64 a0_0) := bcl BK586 0; have hcz10_1 : w8.cell? ⟨gb586, 1, none⟩ = some (.int .i64 a0_1) := bcl BK586 1; have hcz10_2 : w8.cell? ⟨gb586, 2, none⟩ = some (.int .i64 a0_2) := bcl BK586 2; have hcz10_3 : w8.cell? ⟨gb586, 3, none⟩ = some (.int .i64 a0_3) := bcl BK586 3; have hfz10_0 := blk_frozen BK586.out 0; have hfz10_1 := blk_frozen BK586.out 1; have hfz10_2 := blk_frozen BK586.out 2; have hfz10_3 := blk_frozen BK586.out 3) | ((with_reducible refine gate_callee (f := 129) rfl ?_); refine goesL_ (some 7) rfl rfl Try.func129 (by kernel_rfl) rfl #[.agg #[.int .i64 a0_0, .int .i64 a0_1, .int .i64 a0_2, .int .i64 a0_3]] rfl (by (try simp only [List.map_toArray, List.map_cons, List.map_nil]); first | done | rfl | (simp only [List.length_drop, List.length_take]; rfl)) ?_; (with_reducible refine (impl_IsMat.calls a0_0 a0_1 a0_2 a0_3 true _ A2.out).mono ?_); rintro e w11 ⟨rfl, hb⟩; refine ⟨_, rfl, ?_⟩; have n0_ := Aside0.mk (bbl BK586 hb); have n1_ := Aside0.mk (bbl BK587 hb); have n2_ := Aside0.mk (bst2 HB GE586 GE587 hb); clear BK586; clear BK587; clear HB; have BK586 := n0_; have BK587 := n1_; have HB := n2_; clear n0_ n1_ n2_; (try clear hb); (try clear hb2); (try clear hk); (try clear hi); have hcz12_0 : w11.cell? ⟨gb586, 0, none⟩ = some (.int .i64 a0_0) := bcl BK586 0; have hcz12_1 : w11.cell? ⟨gb586, 1, none⟩ = some (.int .i64 a0_1) := bcl BK586 1; have hcz12_2 : w11.cell? ⟨gb586, 2, none⟩ = some (.int .i64 a0_2) := bcl BK586 2; have hcz12_3 : w11.cell? ⟨gb586, 3, none⟩ = some (.int .i64 a0_3) := bcl BK586 3; have hfz12_0 := blk_frozen BK586.out 0; have hfz12_1 := blk_frozen BK586.out 1; have hfz12_2 := blk_frozen BK586.out 2; have hfz12_3 := blk_frozen BK586.out 3) | ((with_reducible refine gate_callee (f := 92) rfl ?_); refine goesL_ (some 11) rfl rfl Try.func92 (by kernel_rfl) rfl #[.agg #[.int .i64 a0_0, .int .i64 a0_1, .int .i64 a0_2, .int .i64 a0_3]] rfl (by (try simp only [List.map_toArray, List.map_cons, List.map_nil]); first | done | rfl | (simp only [List.length_drop, List.length_take]; rfl)) ?_; (with_reducible refine (impl_Mat_isReflection.calls k a0_0 a0_1 a0_2 a0_3 true _ A4.out).mono ?_); rintro e w13 ⟨rfl, hb⟩; refine ⟨_, rfl, ?_⟩; have n0_ := Aside0.mk (bbl BK586 hb); have n1_ := Aside0.mk (bbl BK587 hb); have n2_ := Aside0.mk (bst2 HB GE586 GE587 hb); clear BK586; clear BK587; clear HB; have BK586 := n0_; have BK587 := n1_; have HB := n2_; clear n0_ n1_ n2_; (try clear hb); (try clear hb2); (try clear hk); (try clear hi); have hcz14_0 : w13.cell? ⟨gb586, 0, none⟩ = some (.int .i64 a0_0) := bcl BK586 0; have hcz14_1 : w13.cell? ⟨gb586, 1, none⟩ = some (.int .i64 a0_1) := bcl BK586 1; have hcz14_2 : w13.cell? ⟨gb586, 2, none⟩ = some (.int .i64 a0_2) := bcl BK586 2; have hcz14_3 : w13.cell? ⟨gb586, 3, none⟩ = some (.int .i64 a0_3) := bcl BK586 3; have hfz14_0 := blk_frozen BK586.out 0; have hfz14_1 := blk_frozen BK586.out 1; have hfz14_2 := blk_frozen BK586.out 2; have hfz14_3 := blk_frozen BK586.out 3) | ((with_reducible refine gate_dst (N := 4) rfl ?_); refine box_event ?hg (N := 4) ?hd (cs := #[.int .i64 0, .int .i64 0]) (t := 34) ?hr ?_; (case hd => rfl); (case hg => rfl); (case hr => first | (go_simp; done) | (go_simp; rfl)); intro gb590 hg w15 hbox hb; have n0_ := Aside0.mk (bbl BK586 hb); have n1_ := Aside0.mk (bbl BK587 hb); have n2_ := Aside0.mk (bst2 HB GE586 GE587 hb); have n3_ := Aside0.mk (hbox); have n4_ := ngw2 hg HB GE586 GE587; have n5_ := n4_; have n6_ := nlt hg BK586; have n7_ := nsy (nlt hg BK586); have n8_ := nlt hg BK587; have n9_ := nsy (nlt hg BK587); clear BK586; clear BK587; clear HB; have BK586 := n0_; have BK587 := n1_; have HB := n2_; have BK590 := n3_; have GW590 := n4_; have GE590 := n5_; have NB586_590 := n6_; have NB590_586 := n7_; have NB587_590 := n8_; have NB590_587 := n9_; clear n0_ n1_ n2_ n3_ n4_ n5_ n6_ n7_ n8_ n9_; clear hb hbox hg; have hnb16 := NB590_586.out; have hnc16 := NB586_590.out; have hnb17 := NB590_587.out; have hnc17 := NB587_590.out; have hcz18_0 : w15.cell? ⟨gb590, 0, none⟩ = some (.int .i64 0) := bcl BK590 0; have hcz18_1 : w15.cell? ⟨gb590, 1, none⟩ = some (.int .i64 0) := bcl BK590 1; have hfz18_0 := blk_frozen BK590.out 0; have hfz18_1 := blk_frozen BK590.out 1))
   (try simp only [Act.put, sA, sB, sC])
   go_cut [] (fun wc => ∃ (kq : Nat) (x591000_5 : Int) (x591001_5 : Int), Aside0 (impl_AxisOf.j0 kq x591000_5 x591001_5 = some (r1, r2, r3)) ∧ Aside0 (kq ≤ k) ∧ Aside0 (wc.heap[gb586]? = some (.cells #[.int .i64 a0_0, .int .i64 a0_1, .int .i64 a0_2, .int .i64 a0_3] 33 (0, 0))) ∧ Aside0 (wc.heap[gb587]? = some (.cells #[.int .i64 0, .int .i64 0] 34 (0, 0))) ∧ Aside0 (wc.heap[gb590]? = some (.cells #[.int .i64 x591000_5, .int .i64 x591001_5] 34 (0, 0))) ∧ Aside0 (Below w.heap.size w wc))
   case first =>
    have H := HC6.out
    clear HC6
    by_cases c19 : (a0_1 == 0 && ((wrap64 (1 - a0_0)) == 0)) = true
    ·rw [if_pos c19] at H
     have c19b0 : (a0_1 == 0 && ((wrap64 (1 - a0_0)) == 0)) = true := c19
     (try (have c19b1 : decide (a0_1 = 0 && ((wrap64 (1 - a0_0)) == 0)) = true := by simpa using c19))
     (try (have c19b2 : (a0_1 == 0 && ((wrap64 (1 - a0_0)) == 0)) = true := by simpa using c19))
     clear c19
     (first | rw [c19b0] | (simp only [i64_w, i32_w]; rw [c19b0]) | skip)
     have H' := Aside0.mk H
     clear H
     have hnb20 := NB586_587.out
     have hnc20 := NB587_586.out
     have hnb21 := NB586_590.out
     have hnc21 := NB590_586.out
     have hcz22_0 : w15.cell? ⟨gb586, 0, none⟩ = some (.int .i64 a0_0) := bcl BK586 0
     have hcz22_1 : w15.cell? ⟨gb586, 1, none⟩ = some (.int .i64 a0_1) := bcl BK586 1
     have hcz22_2 : w15.cell? ⟨gb586, 2, none⟩ = some (.int .i64 a0_2) := bcl BK586 2
     have hcz22_3 : w15.cell? ⟨gb586, 3, none⟩ = some (.int .i64 a0_3) := bcl BK586 3
     have hfz22_0 := blk_frozen BK586.out 0
     have hfz22_1 := blk_frozen BK586.out 1
     have hfz22_2 := blk_frozen BK586.out 2
     have hfz22_3 := blk_frozen BK586.out 3
     have hnb23 := NB590_587.out
     have hnc23 := NB587_590.out
     have hcz24_0 : w15.cell? ⟨gb590, 0, none⟩ = some (.int .i64 0) := bcl BK590 0
     have hcz24_1 : w15.cell? ⟨gb590, 1, none⟩ = some (.int .i64 0) := bcl BK590 1
     have hfz24_0 := blk_frozen BK590.out 0
     have hfz24_1 := blk_frozen BK590.out 1
     go_wp2
     go_meet
     case rel => exact ⟨_, (wrap64 (1 - a0_3)), (a0_2), H', ⟨by first | omega | exact Nat.le_refl _⟩, ⟨by (with_reducible repeat (first | refine blk_drewN ?_ _ | refine blk_drew ?_ | refine blk_alloc ?_ _)); refine blk_far ?_ NB586_590.out _; (with_reducible repeat (first | refine blk_drewN ?_ _ | refine blk_drew ?_ | refine blk_alloc ?_ _)); refine blk_far ?_ NB586_590.out _; (with_reducible repeat (first | refine blk_drewN ?_ _ | refine blk_drew ?_ | refine blk_alloc ?_ _)); refine blk_far ?_ NB586_590.out _; (with_reducible repeat (first | refine blk_drewN ?_ _ | refine blk_drew ?_ | refine blk_alloc ?_ _)); refine blk_far ?_ NB586_590.out _; (with_reducible repeat (first | refine blk_drewN ?_ _ | refine blk_drew ?_ | refine blk_alloc ?_ _)); exact BK586.out⟩, ⟨by (with_reducible repeat (first | refine blk_drewN ?_ _ | refine blk_drew ?_ | refine blk_alloc ?_ _)); refine blk_far ?_ NB587_590.out _; (with_reducible repeat (first | refine blk_drewN ?_ _ | refine blk_drew ?_ | refine blk_alloc ?_ _)); refine blk_far ?_ NB587_590.out _; (with_reducible repeat (first | refine blk_drewN ?_ _ | refine blk_drew ?_ | refine blk_alloc ?_ _)); refine blk_far ?_ NB587_590.out _; (with_reducible repeat (first | refine blk_drewN ?_ _ | refine blk_drew ?_ | refine blk_alloc ?_ _)); refine blk_far ?_ NB587_590.out _; (with_reducible repeat (first | refine blk_drewN ?_ _ | refine blk_drew ?_ | refine blk_alloc ?_ _)); exact BK587.out⟩, ⟨by (with_reducible repeat (first | refine blk_drewN ?_ _ | refine blk_drew ?_ | refine blk_alloc ?_ _)); refine blk_put (cs := #[.int .i64 (wrap64 (1 - a0_3)), .int .i64 (wrap64 (1 - a0_0))]) ?_ 1 _ rfl; (with_reducible repeat (first | refine blk_drewN ?_ _ | refine blk_drew ?_ | refine blk_alloc ?_ _)); refine blk_put (cs := #[.int .i64 a0_1, .int .i64 (wrap64 (1 - a0_0))]) ?_ 0 _ rfl; (with_reducible repeat (first | refine blk_drewN ?_ _ | refine blk_drew ?_ | refine blk_alloc ?_ _)); refine blk_put (cs := #[.int .i64 a0_1, .int .i64 0]) ?_ 1 _ rfl; (with_reducible repeat (first | refine blk_drewN ?_ _ | refine blk_drew ?_ | refine blk_alloc ?_ _)); refine blk_put (cs := #[.int .i64 0, .int .i64 0]) ?_ 0 _ rfl; (with_reducible repeat (first | refine blk_drewN ?_ _ | refine blk_drew ?_ | refine blk_alloc ?_ _)); exact BK590.out⟩, ⟨bbw3 HB GE586 GE587 GE590⟩⟩
    ·rw [if_neg c19] at H
     have c19b0 : (a0_1 == 0 && ((wrap64 (1 - a0_0)) == 0)) = false := by simpa using c19
     (try (have c19b1 : decide (a0_1 = 0 && ((wrap64 (1 - a0_0)) == 0)) = false := by simpa using c19))
     (try (have c19b2 : (a0_1 == 0 && ((wrap64 (1 - a0_0)) == 0)) = false := by simpa using c19))
     (try (have c19b3 : ¬ (a0_1 = 0 && ((wrap64 (1 - a0_0)) == 0)) := by simpa using c19))
     clear c19
     (first | rw [c19b0] | (simp only [i64_w, i32_w]; rw [c19b0]) | skip)
     have H' := Aside0.mk H
     clear H
     go_wp2
     go_meet
     case rel => exact ⟨_, (a0_1), (wrap64 (1 - a0_0)), H', ⟨by first | omega | exact Nat.le_refl _⟩, ⟨by (with_reducible repeat (first | refine blk_drewN ?_ _ | refine blk_drew ?_ | refine blk_alloc ?_ _)); refine blk_far ?_ NB586_590.out _; (with_reducible repeat (first | refine blk_drewN ?_ _ | refine blk_drew ?_ | refine blk_alloc ?_ _)); refine blk_far ?_ NB586_590.out _; (with_reducible repeat (first | refine blk_drewN ?_ _ | refine blk_drew ?_ | refine blk_alloc ?_ _)); exact BK586.out⟩, ⟨by (with_reducible repeat (first | refine blk_drewN ?_ _ | refine blk_drew ?_ | refine blk_alloc ?_ _)); refine blk_far ?_ NB587_590.out _; (with_reducible repeat (first | refine blk_drewN ?_ _ | refine blk_drew ?_ | refine blk_alloc ?_ _)); refine blk_far ?_ NB587_590.out _; (with_reducible repeat (first | refine blk_drewN ?_ _ | refine blk_drew ?_ | refine blk_alloc ?_ _)); exact BK587.out⟩, ⟨by (with_reducible repeat (first | refine blk_drewN ?_ _ | refine blk_drew ?_ | refine blk_alloc ?_ _)); refine blk_put (cs := #[.int .i64 a0_1, .int .i64 0]) ?_ 1 _ rfl; (with_reducible repeat (first | refine blk_drewN ?_ _ | refine blk_drew ?_ | refine blk_alloc ?_ _)); refine blk_put (cs := #[.int .i64 0, .int .i64 0]) ?_ 0 _ rfl; (with_reducible repeat (first | refine blk_drewN ?_ _ | refine blk_drew ?_ | refine blk_alloc ?_ _)); exact BK590.out⟩, ⟨bbw3 HB GE586 GE587 GE590⟩⟩
   case rest =>
    clear HC6
    try clear c1
    try clear c2
    try clear p2
    try clear c3
    try clear c5
    try clear p6
    try clear c9
    try clear c12
    try clear c16
    try clear c17
    try clear c19
    try clear c19b0
    try clear c19b1
    try clear c19b2
    try clear c20
    try clear c21
    try clear c23
    try clear hcz10_0
    try clear hcz10_1
    try clear hcz10_2
    try clear hcz10_3
    try clear hcz12_0
    try clear hcz12_1
    try clear hcz12_2
    try clear hcz12_3
    try clear hcz14_0
    try clear hcz14_1
    try clear hcz14_2
    try clear hcz14_3
    try clear hcz18_0
    try clear hcz18_1
    try clear hcz22_0
    try clear hcz22_1
    try clear hcz22_2
    try clear hcz22_3
    try clear hcz24_0
    try clear hcz24_1
    try clear hfz10_0
    try clear hfz10_1
    try clear hfz10_2
    try clear hfz10_3
    try clear hfz12_0
    try clear hfz12_1
    try clear hfz12_2
    try clear hfz12_3
    try clear hfz14_0
    try clear hfz14_1
    try clear hfz14_2
    try clear hfz14_3
    try clear hfz18_0
    try clear hfz18_1
    try clear hfz22_0
    try clear hfz22_1
    try clear hfz22_2
    try clear hfz22_3
    try clear hfz24_0
    try clear hfz24_1
    obtain ⟨kq, x591000_5, x591001_5, HA, HJ5, BK586, BK587, BK590, HB⟩ := hcut
    cases kq with
    | zero => exact absurd HA.out (by simp [impl_AxisOf.j0])
    | succ kj5 =>
     have H := HA.out
     clear HA
     simp only [impl_AxisOf.j0] at H
     replace H := Option.bind_eq_some_iff.mp H
     obtain ⟨t591, A250, H⟩ := H
     replace H : (if t591 = 0 then (none) else ((impl_compareVecs.f kj5 (wrap64 (Int.tdiv x591000_5 t591)) (wrap64 (Int.tdiv x591001_5 t591)) 0 0).bind fun t592 => (if t592 < 0 then ((impl_Vec_times.f (wrap64 (Int.tdiv x591000_5 t591)) (wrap64 (Int.tdiv x591001_5 t591)) (-1)).bind fun bt593 => ((impl_limited.f bt593.1 bt593.2).bind fun bt595 => (some (bt595.1, bt595.2.1, bt595.2.2)))) else ((impl_limited.f (wrap64 (Int.tdiv x591000_5 t591)) (wrap64 (Int.tdiv x591001_5 t591))).bind fun bt598 => (some (bt598.1, bt598.2.1, bt598.2.2)))))) = some (r1, r2, r3) := H
     have A25 := Aside0.mk A250
     clear A250
     by_cases c26 : t591 = 0
     ·rw [if_pos c26] at H
      exact absurd H (by simp)
     ·rw [if_neg c26] at H
      have c26b0 : (t591 == 0) = false := beq_eq_false_iff_ne.mpr c26
      have c26b1 : (t591 != 0) = true := bne_iff_ne.mpr c26
      replace H := Option.bind_eq_some_iff.mp H
      obtain ⟨t592, A270, H⟩ := H
      replace H : (if t592 < 0 then ((impl_Vec_times.f (wrap64 (Int.tdiv x591000_5 t591)) (wrap64 (Int.tdiv x591001_5 t591)) (-1)).bind fun bt593 => ((impl_limited.f bt593.1 bt593.2).bind fun bt595 => (some (bt595.1, bt595.2.1, bt595.2.2)))) else ((impl_limited.f (wrap64 (Int.tdiv x591000_5 t591)) (wrap64 (Int.tdiv x591001_5 t591))).bind fun bt598 => (some (bt598.1, bt598.2.1, bt598.2.2)))) = some (r1, r2, r3) := H
      have A27 := Aside0.mk A270
      clear A270
      by_cases c28 : t592 < 0
      ·rw [if_pos c28] at H
       have c28b0 : decide (t592 < 0) = true := decide_eq_true c28
       clear c28
       replace H := Option.bind_eq_some_iff.mp H
       obtain ⟨⟨t593, t594⟩, A290, H⟩ := H
       replace H : ((impl_limited.f t593 t594).bind fun bt595 => (some (bt595.1, bt595.2.1, bt595.2.2))) = some (r1, r2, r3) := H
       have A29 := Aside0.mk A290
       clear A290
       replace H := Option.bind_eq_some_iff.mp H
       obtain ⟨⟨t595, t596, t597⟩, A300, H⟩ := H
       replace H : (some (t595, t596, t597)) = some (r1, r2, r3) := H
       have A30 := Aside0.mk A300
       clear A300
       simp only [Option.some.injEq, Prod.mk.injEq] at H
       obtain ⟨rfl, rfl, rfl⟩ := H
       have hnb31 := NB590_586.out
       have hnc31 := NB586_590.out
       have hnb32 := NB590_587.out
       have hnc32 := NB587_590.out
       have hcz33_0 : wc.cell? ⟨gb590, 0, none⟩ = some (.int .i64 x591000_5) := bcl BK590 0
       have hcz33_1 : wc.cell? ⟨gb590, 1, none⟩ = some (.int .i64 x591001_5) := bcl BK590 1
       have hfz33_0 := blk_frozen BK590.out 0
       have hfz33_1 := blk_frozen BK590.out 1
       try go_wp2_with (first | ((with_reducible refine gate_callee (f := 105) rfl ?_); refine goesL_ (some 33) rfl rfl Try.func105 (by kernel_rfl) rfl #[.int .i64 x591000_5, .int .i64 x591001_5] rfl (by (try simp only [List.map_toArray, List.map_cons, List.map_nil]); first | done | rfl | (simp only [List.length_drop, List.length_take]; rfl)) ?_; (with_reducible refine (impl_gcd.calls kj5 x591000_5 x591001_5 t591 _ A25.out).mono ?_); rintro e w34 ⟨rfl, hb⟩; refine ⟨_, rfl, ?_⟩; have n0_ := Aside0.mk (bbl BK586 hb); have n1_ := Aside0.mk (bbl BK587 hb); have n2_ := Aside0.mk (bbl BK590 hb); have n3_ := Aside0.mk (bst3 HB GE586 GE587 GE590 hb); clear BK586; clear BK587; clear BK590; clear HB; have BK586 := n0_; have BK587 := n1_; have BK590 := n2_; have HB := n3_; clear n0_ n1_ n2_ n3_; (try clear hb); (try clear hb2); (try clear hk); (try clear hi)))
       have n0_ := Aside0.mk (blk_drew BK586.out)
       have n1_ := Aside0.mk (blk_drew BK587.out)
       have n2_ := Aside0.mk (blk_drew BK590.out)
       have n3_ := Aside0.mk (below_drew1 HB.out)
       clear BK586
       clear BK587
       clear BK590
       clear HB
       have BK586 := n0_
       have BK587 := n1_
       have BK590 := n2_
       have HB := n3_
       clear n0_ n1_ n2_ n3_
       refine start_ (n := 10) (S := fun w' => w'.cell? ⟨gb590, 0, none⟩ = some (.int .i64 x591000_5) ∧ w'.cell? ⟨gb590, 1, none⟩ = some (.int .i64 x591001_5)) (ds := [9]) #[false, false, false, false, false, false, false, false, false, false] (by kernel_rfl) rfl rfl ⟨bcl BK590 0, bcl BK590 1⟩ (fun hHeld => ?_); refine with_tabW impl_AxisOf.tab9 impl_AxisOf.bits9 (fun HT_ HW_ => ?_)
       generalize w34.drew = w35 at BK586 BK587 BK590 HB hHeld ⊢
       refine pure_ (i := 0) (N := some 34) (v := ?_) (a' := ?_) #[true, false, false, false, false, false, false, false, false, false] rfl rfl (any_of HT_.out (by kernel_rfl)) (fun _ _ _ h => h) (Or.inl ⟨by rfl, ?_⟩) ?_ ?_
       rotate_left
       ·intro w'
        go_simp
        with_reducible rfl
       rotate_left
       ·simp only [Act.put, sA, sB, sC, i64_w, i32_w]
        rfl
       refine pure_ (i := 2) (N := some 36) (v := ?_) (a' := ?_) #[true, false, true, false, false, false, false, false, false, false] rfl rfl (any_of HT_.out (by kernel_rfl)) (fun _ _ _ h => h) (Or.inl ⟨by rfl, ?_⟩) ?_ ?_
       rotate_left
       ·intro w'
        go_simp
        with_reducible rfl
       rotate_left
       ·simp only [Act.put, sA, sB, sC, i64_w, i32_w]
        rfl
       refine pure_ (i := 4) (N := some 38) (v := ?_) (a' := ?_) #[true, false, true, false, true, false, false, false, false, false] rfl rfl (any_of HT_.out (by kernel_rfl)) (fun _ _ _ h => h) (Or.inl ⟨by rfl, ?_⟩) ?_ ?_
       rotate_left
       ·intro w'
        go_simp
        with_reducible rfl
       rotate_left
       ·simp only [Act.put, sA, sB, sC, i64_w, i32_w]
        rfl
       refine pure_ (i := 6) (N := some 40) (v := ?_) (a' := ?_) #[true, false, true, false, true, false, true, false, false, false] rfl rfl (any_of HT_.out (by kernel_rfl)) (fun _ _ _ h => h) (Or.inl ⟨by rfl, ?_⟩) ?_ ?_
       rotate_left
       ·intro w'
        go_simp
        with_reducible rfl
       rotate_left
       ·simp only [Act.put, sA, sB, sC, i64_w, i32_w]
        rfl
       refine take_ (i := 1) (N := some 35) (v := ?_) (a' := ?_) #[true, true, true, false, true, false, true, false, false, false] rfl rfl (take_ofW HT_.out HW_.out (by kernel_rfl)) (fun _ _ _ h => h) (Or.inl ⟨by rfl, ?_⟩) hHeld ?_ ?_
       rotate_left
       ·rintro w' ⟨s0, s1⟩
        go_simp
        with_reducible rfl
       rotate_left
       ·simp only [Act.put, sA, sB, sC, i64_w, i32_w]
        rfl
       refine pure_ (i := 3) (N := some 37) (v := ?_) (a' := ?_) #[true, true, true, true, true, false, true, false, false, false] rfl rfl (any_of HT_.out (by kernel_rfl)) (fun _ _ _ h => h) (Or.inl ⟨by rfl, ?_⟩) ?_ ?_
       rotate_left
       ·intro w'
        go_simp
        with_reducible rfl
       rotate_left
       ·simp only [Act.put, sA, sB, sC, i64_w, i32_w]
        rfl
       refine take_ (i := 5) (N := some 39) (v := ?_) (a' := ?_) #[true, true, true, true, true, true, true, false, false, false] rfl rfl (take_ofW HT_.out HW_.out (by kernel_rfl)) (fun _ _ _ h => h) (Or.inl ⟨by rfl, ?_⟩) hHeld ?_ ?_
       rotate_left
       ·rintro w' ⟨s0, s1⟩
        go_simp
        with_reducible rfl
       rotate_left
       ·simp only [Act.put, sA, sB, sC, i64_w, i32_w]
        rfl
       refine pure_ (i := 7) (N := some 41) (v := ?_) (a' := ?_) #[true, true, true, true, true, true, true, true, false, false] rfl rfl (any_of HT_.out (by kernel_rfl)) (fun _ _ _ h => h) (Or.inl ⟨by rfl, ?_⟩) ?_ ?_
       rotate_left
       ·intro w'
        go_simp
        with_reducible rfl
       rotate_left
       ·simp only [Act.put, sA, sB, sC, i64_w, i32_w]
        rfl
       refine pure_ (i := 8) (N := some 42) (v := ?_) (a' := ?_) #[true, true, true, true, true, true, true, true, true, false] rfl rfl (any_of HT_.out (by kernel_rfl)) (fun _ _ _ h => h) (Or.inl ⟨by rfl, ?_⟩) ?_ ?_
       rotate_left
       ·intro w'
        go_simp
        with_reducible rfl
       rotate_left
       ·simp only [Act.put, sA, sB, sC, i64_w, i32_w]
        rfl
       refine last_ (i := 9) (N := none) #[true, true, true, true, true, true, true, true, true, true] rfl rfl (one_of HT_.out (by kernel_rfl)) (by decide) (fun K hK => ?_)
       have hs36 : w35.cell? ⟨gb590, 0, none⟩ = some (.int .i64 x591000_5) := bcl BK590 0
       have hfs36 := blk_frozen BK590.out 0
       have hns36_0 := NB586_590.out
       have hns36_1 := NB587_590.out
       have hms36_0 := NB590_586.out
       have hms36_1 := NB590_587.out
       have hs37 : w35.cell? ⟨gb590, 1, none⟩ = some (.int .i64 x591001_5) := bcl BK590 1
       have hfs37 := blk_frozen BK590.out 1
       have hns37_0 := NB586_590.out
       have hns37_1 := NB587_590.out
       have hms37_0 := NB590_586.out
       have hms37_1 := NB590_587.out
       refine skip_ (w1 := ?_) (by rfl) rfl ?_ ?_
       rotate_left
       ·go_simp
        rfl
       refine hK.out _ _ ?_
       clear hK K
       refine done_ (done_of HT_.out (by kernel_rfl)) ?_
       have hcz38_0 : w35.cell? ⟨gb590, 0, none⟩ = some (.int .i64 x591000_5) := bcl BK590 0
       have hcz38_1 : w35.cell? ⟨gb590, 1, none⟩ = some (.int .i64 x591001_5) := bcl BK590 1
       have hfz38_0 := blk_frozen BK590.out 0
       have hfz38_1 := blk_frozen BK590.out 1
       try go_wp2_with (first | ((with_reducible refine gate_callee (f := 130) rfl ?_); refine goesL_ (some 45) rfl rfl Try.func130 (by kernel_rfl) rfl #[.agg #[.int .i64 (wrap64 (Int.tdiv x591000_5 t591)), .int .i64 (wrap64 (Int.tdiv x591001_5 t591))], .agg #[.int .i64 0, .int .i64 0]] rfl (by (try simp only [List.map_toArray, List.map_cons, List.map_nil]); first | done | rfl | (simp only [List.length_drop, List.length_take]; rfl)) ?_; (with_reducible refine (impl_compareVecs.calls kj5 (wrap64 (Int.tdiv x591000_5 t591)) (wrap64 (Int.tdiv x591001_5 t591)) 0 0 t592 _ A27.out).mono ?_); rintro e w39 ⟨rfl, hb⟩; refine ⟨_, rfl, ?_⟩; have n0_ := Aside0.mk (blk_below (g := gb586) (o := .cells #[.int .i64 a0_0, .int .i64 a0_1, .int .i64 a0_2, .int .i64 a0_3] 33 (0, 0)) (by (with_reducible repeat (first | refine blk_drewN ?_ _ | refine blk_drew ?_ | refine blk_alloc ?_ _)); refine blk_far ?_ NB586_590.out _; (with_reducible repeat (first | refine blk_drewN ?_ _ | refine blk_drew ?_ | refine blk_alloc ?_ _)); refine blk_far ?_ NB586_590.out _; (with_reducible repeat (first | refine blk_drewN ?_ _ | refine blk_drew ?_ | refine blk_alloc ?_ _)); exact BK586.out) hb); have n1_ := Aside0.mk (blk_below (g := gb587) (o := .cells #[.int .i64 0, .int .i64 0] 34 (0, 0)) (by (with_reducible repeat (first | refine blk_drewN ?_ _ | refine blk_drew ?_ | refine blk_alloc ?_ _)); refine blk_far ?_ NB587_590.out _; (with_reducible repeat (first | refine blk_drewN ?_ _ | refine blk_drew ?_ | refine blk_alloc ?_ _)); refine blk_far ?_ NB587_590.out _; (with_reducible repeat (first | refine blk_drewN ?_ _ | refine blk_drew ?_ | refine blk_alloc ?_ _)); exact BK587.out) hb); have n2_ := Aside0.mk (blk_below (g := gb590) (o := .cells #[.int .i64 (wrap64 (Int.tdiv x591000_5 t591)), .int .i64 (wrap64 (Int.tdiv x591001_5 t591))] 34 (0, 0)) (by (with_reducible repeat (first | refine blk_drewN ?_ _ | refine blk_drew ?_ | refine blk_alloc ?_ _)); refine blk_put (cs := #[.int .i64 (wrap64 (Int.tdiv x591000_5 t591)), .int .i64 x591001_5]) ?_ 1 _ rfl; (with_reducible repeat (first | refine blk_drewN ?_ _ | refine blk_drew ?_ | refine blk_alloc ?_ _)); refine blk_put (cs := #[.int .i64 x591000_5, .int .i64 x591001_5]) ?_ 0 _ rfl; (with_reducible repeat (first | refine blk_drewN ?_ _ | refine blk_drew ?_ | refine blk_alloc ?_ _)); exact BK590.out) hb); have n3_ := Aside0.mk (bst3 HB GE586 GE587 GE590 hb); clear BK586; clear BK587; clear BK590; clear HB; have BK586 := n0_; have BK587 := n1_; have BK590 := n2_; have HB := n3_; clear n0_ n1_ n2_ n3_; (try clear hb); (try clear hb2); (try clear hk); (try clear hi); have hcz40_0 : w39.cell? ⟨gb590, 0, none⟩ = some (.int .i64 (wrap64 (Int.tdiv x591000_5 t591))) := bcl BK590 0; have hcz40_1 : w39.cell? ⟨gb590, 1, none⟩ = some (.int .i64 (wrap64 (Int.tdiv x591001_5 t591))) := bcl BK590 1; have hfz40_0 := blk_frozen BK590.out 0; have hfz40_1 := blk_frozen BK590.out 1) | ((with_reducible refine gate_callee (f := 131) rfl ?_); refine goesL_ (some 48) rfl rfl Try.func131 (by kernel_rfl) rfl #[.agg #[.int .i64 (wrap64 (Int.tdiv x591000_5 t591)), .int .i64 (wrap64 (Int.tdiv x591001_5 t591))], .int .i64 (-1)] rfl (by (try simp only [List.map_toArray, List.map_cons, List.map_nil]); first | done | rfl | (simp only [List.length_drop, List.length_take]; rfl)) ?_; (with_reducible refine (impl_Vec_times.calls (wrap64 (Int.tdiv x591000_5 t591)) (wrap64 (Int.tdiv x591001_5 t591)) (-1) t593 t594 _ A29.out).mono ?_); rintro e w41 ⟨rfl, hb⟩; refine ⟨_, rfl, ?_⟩; have n0_ := Aside0.mk (bbl BK586 hb); have n1_ := Aside0.mk (bbl BK587 hb); have n2_ := Aside0.mk (bbl BK590 hb); have n3_ := Aside0.mk (bst3 HB GE586 GE587 GE590 hb); clear BK586; clear BK587; clear BK590; clear HB; have BK586 := n0_; have BK587 := n1_; have BK590 := n2_; have HB := n3_; clear n0_ n1_ n2_ n3_; (try clear hb); (try clear hb2); (try clear hk); (try clear hi); have hcz42_0 : w41.cell? ⟨gb590, 0, none⟩ = some (.int .i64 (wrap64 (Int.tdiv x591000_5 t591))) := bcl BK590 0; have hcz42_1 : w41.cell? ⟨gb590, 1, none⟩ = some (.int .i64 (wrap64 (Int.tdiv x591001_5 t591))) := bcl BK590 1; have hfz42_0 := blk_frozen BK590.out 0; have hfz42_1 := blk_frozen BK590.out 1) | ((with_reducible refine gate_callee (f := 132) rfl ?_); refine goesL_ (some 50) rfl rfl Try.func132 (by kernel_rfl) rfl #[.agg #[.int .i64 t593, .int .i64 t594]] rfl (by (try simp only [List.map_toArray, List.map_cons, List.map_nil]); first | done | rfl | (simp only [List.length_drop, List.length_take]; rfl)) ?_; (with_reducible refine (impl_limited.calls t593 t594 t595 t596 t597 _ A30.out).mono ?_); rintro e w43 ⟨rfl, hb⟩; refine ⟨_, rfl, ?_⟩; have n0_ := Aside0.mk (blk_below (g := gb586) (o := .cells #[.int .i64 a0_0, .int .i64 a0_1, .int .i64 a0_2, .int .i64 a0_3] 33 (0, 0)) (by (with_reducible repeat (first | refine blk_drewN ?_ _ | refine blk_drew ?_ | refine blk_alloc ?_ _)); refine blk_far ?_ NB586_590.out _; (with_reducible repeat (first | refine blk_drewN ?_ _ | refine blk_drew ?_ | refine blk_alloc ?_ _)); refine blk_far ?_ NB586_590.out _; (with_reducible repeat (first | refine blk_drewN ?_ _ | refine blk_drew ?_ | refine blk_alloc ?_ _)); exact BK586.out) hb); have n1_ := Aside0.mk (blk_below (g := gb587) (o := .cells #[.int .i64 0, .int .i64 0] 34 (0, 0)) (by (with_reducible repeat (first | refine blk_drewN ?_ _ | refine blk_drew ?_ | refine blk_alloc ?_ _)); refine blk_far ?_ NB587_590.out _; (with_reducible repeat (first | refine blk_drewN ?_ _ | refine blk_drew ?_ | refine blk_alloc ?_ _)); refine blk_far ?_ NB587_590.out _; (with_reducible repeat (first | refine blk_drewN ?_ _ | refine blk_drew ?_ | refine blk_alloc ?_ _)); exact BK587.out) hb); have n2_ := Aside0.mk (blk_below (g := gb590) (o := .cells #[.int .i64 t593, .int .i64 t594] 34 (0, 0)) (by (with_reducible repeat (first | refine blk_drewN ?_ _ | refine blk_drew ?_ | refine blk_alloc ?_ _)); refine blk_put (cs := #[.int .i64 t593, .int .i64 (wrap64 (Int.tdiv x591001_5 t591))]) ?_ 1 _ rfl; (with_reducible repeat (first | refine blk_drewN ?_ _ | refine blk_drew ?_ | refine blk_alloc ?_ _)); refine blk_put (cs := #[.int .i64 (wrap64 (Int.tdiv x591000_5 t591)), .int .i64 (wrap64 (Int.tdiv x591001_5 t591))]) ?_ 0 _ rfl; (with_reducible repeat (first | refine blk_drewN ?_ _ | refine blk_drew ?_ | refine blk_alloc ?_ _)); exact BK590.out) hb); have n3_ := Aside0.mk (bst3 HB GE586 GE587 GE590 hb); clear BK586; clear BK587; clear BK590; clear HB; have BK586 := n0_; have BK587 := n1_; have BK590 := n2_; have HB := n3_; clear n0_ n1_ n2_ n3_; (try clear hb); (try clear hb2); (try clear hk); (try clear hi); have hnb44 := NB587_586.out; have hnc44 := NB586_587.out; have hcz45_0 : w43.cell? ⟨gb587, 0, none⟩ = some (.int .i64 0) := bcl BK587 0; have hcz45_1 : w43.cell? ⟨gb587, 1, none⟩ = some (.int .i64 0) := bcl BK587 1; have hfz45_0 := blk_frozen BK587.out 0; have hfz45_1 := blk_frozen BK587.out 1))
       refine bodyPost_ret (results_ct rfl _ _ gb587 34 #[.int .i64 t595, .int .i64 t596] (0, 0) _ rfl (by (with_reducible repeat (first | refine blk_drewN ?_ _ | refine blk_drew ?_ | refine blk_alloc ?_ _)); refine blk_put (cs := #[.int .i64 t595, .int .i64 0]) ?_ 1 _ rfl; (with_reducible repeat (first | refine blk_drewN ?_ _ | refine blk_drew ?_ | refine blk_alloc ?_ _)); refine blk_put (cs := #[.int .i64 0, .int .i64 0]) ?_ 0 _ rfl; (with_reducible repeat (first | refine blk_drewN ?_ _ | refine blk_drew ?_ | refine blk_alloc ?_ _)); exact BK587.out) Try.underlying34 rfl (by kernel_rfl)) rfl ?_
       exact ⟨by first | rfl | (simp [errW_none, errW_some] <;> rfl) | (simp [*, errW_none, errW_some] <;> rfl), bbw3 HB GE586 GE587 GE590⟩
      ·rw [if_neg c28] at H
       have c28b0 : decide (t592 < 0) = false := decide_eq_false c28
       clear c28
       replace H := Option.bind_eq_some_iff.mp H
       obtain ⟨⟨t598, t599, t600⟩, A460, H⟩ := H
       replace H : (some (t598, t599, t600)) = some (r1, r2, r3) := H
       have A46 := Aside0.mk A460
       clear A460
       simp only [Option.some.injEq, Prod.mk.injEq] at H
       obtain ⟨rfl, rfl, rfl⟩ := H
       have hnb47 := NB590_586.out
       have hnc47 := NB586_590.out
       have hnb48 := NB590_587.out
       have hnc48 := NB587_590.out
       have hcz49_0 : wc.cell? ⟨gb590, 0, none⟩ = some (.int .i64 x591000_5) := bcl BK590 0
       have hcz49_1 : wc.cell? ⟨gb590, 1, none⟩ = some (.int .i64 x591001_5) := bcl BK590 1
       have hfz49_0 := blk_frozen BK590.out 0
       have hfz49_1 := blk_frozen BK590.out 1
       try go_wp2_with (first | ((with_reducible refine gate_callee (f := 105) rfl ?_); refine goesL_ (some 33) rfl rfl Try.func105 (by kernel_rfl) rfl #[.int .i64 x591000_5, .int .i64 x591001_5] rfl (by (try simp only [List.map_toArray, List.map_cons, List.map_nil]); first | done | rfl | (simp only [List.length_drop, List.length_take]; rfl)) ?_; (with_reducible refine (impl_gcd.calls kj5 x591000_5 x591001_5 t591 _ A25.out).mono ?_); rintro e w50 ⟨rfl, hb⟩; refine ⟨_, rfl, ?_⟩; have n0_ := Aside0.mk (bbl BK586 hb); have n1_ := Aside0.mk (bbl BK587 hb); have n2_ := Aside0.mk (bbl BK590 hb); have n3_ := Aside0.mk (bst3 HB GE586 GE587 GE590 hb); clear BK586; clear BK587; clear BK590; clear HB; have BK586 := n0_; have BK587 := n1_; have BK590 := n2_; have HB := n3_; clear n0_ n1_ n2_ n3_; (try clear hb); (try clear hb2); (try clear hk); (try clear hi)))
       have n0_ := Aside0.mk (blk_drew BK586.out)
       have n1_ := Aside0.mk (blk_drew BK587.out)
       have n2_ := Aside0.mk (blk_drew BK590.out)
       have n3_ := Aside0.mk (below_drew1 HB.out)
       clear BK586
       clear BK587
       clear BK590
       clear HB
       have BK586 := n0_
       have BK587 := n1_
       have BK590 := n2_
       have HB := n3_
       clear n0_ n1_ n2_ n3_
       refine start_ (n := 10) (S := fun w' => w'.cell? ⟨gb590, 0, none⟩ = some (.int .i64 x591000_5) ∧ w'.cell? ⟨gb590, 1, none⟩ = some (.int .i64 x591001_5)) (ds := [9]) #[false, false, false, false, false, false, false, false, false, false] (by kernel_rfl) rfl rfl ⟨bcl BK590 0, bcl BK590 1⟩ (fun hHeld => ?_); refine with_tabW impl_AxisOf.tab9 impl_AxisOf.bits9 (fun HT_ HW_ => ?_)
       generalize w50.drew = w51 at BK586 BK587 BK590 HB hHeld ⊢
       refine pure_ (i := 0) (N := some 34) (v := ?_) (a' := ?_) #[true, false, false, false, false, false, false, false, false, false] rfl rfl (any_of HT_.out (by kernel_rfl)) (fun _ _ _ h => h) (Or.inl ⟨by rfl, ?_⟩) ?_ ?_
       rotate_left
       ·intro w'
        go_simp
        with_reducible rfl
       rotate_left
       ·simp only [Act.put, sA, sB, sC, i64_w, i32_w]
        rfl
       refine pure_ (i := 2) (N := some 36) (v := ?_) (a' := ?_) #[true, false, true, false, false, false, false, false, false, false] rfl rfl (any_of HT_.out (by kernel_rfl)) (fun _ _ _ h => h) (Or.inl ⟨by rfl, ?_⟩) ?_ ?_
       rotate_left
       ·intro w'
        go_simp
        with_reducible rfl
       rotate_left
       ·simp only [Act.put, sA, sB, sC, i64_w, i32_w]
        rfl
       refine pure_ (i := 4) (N := some 38) (v := ?_) (a' := ?_) #[true, false, true, false, true, false, false, false, false, false] rfl rfl (any_of HT_.out (by kernel_rfl)) (fun _ _ _ h => h) (Or.inl ⟨by rfl, ?_⟩) ?_ ?_
       rotate_left
       ·intro w'
        go_simp
        with_reducible rfl
       rotate_left
       ·simp only [Act.put, sA, sB, sC, i64_w, i32_w]
        rfl
       refine pure_ (i := 6) (N := some 40) (v := ?_) (a' := ?_) #[true, false, true, false, true, false, true, false, false, false] rfl rfl (any_of HT_.out (by kernel_rfl)) (fun _ _ _ h => h) (Or.inl ⟨by rfl, ?_⟩) ?_ ?_
       rotate_left
       ·intro w'
        go_simp
        with_reducible rfl
       rotate_left
       ·simp only [Act.put, sA, sB, sC, i64_w, i32_w]
        rfl
       refine take_ (i := 1) (N := some 35) (v := ?_) (a' := ?_) #[true, true, true, false, true, false, true, false, false, false] rfl rfl (take_ofW HT_.out HW_.out (by kernel_rfl)) (fun _ _ _ h => h) (Or.inl ⟨by rfl, ?_⟩) hHeld ?_ ?_
       rotate_left
       ·rintro w' ⟨s0, s1⟩
        go_simp
        with_reducible rfl
       rotate_left
       ·simp only [Act.put, sA, sB, sC, i64_w, i32_w]
        rfl
       refine pure_ (i := 3) (N := some 37) (v := ?_) (a' := ?_) #[true, true, true, true, true, false, true, false, false, false] rfl rfl (any_of HT_.out (by kernel_rfl)) (fun _ _ _ h => h) (Or.inl ⟨by rfl, ?_⟩) ?_ ?_
       rotate_left
       ·intro w'
        go_simp
        with_reducible rfl
       rotate_left
       ·simp only [Act.put, sA, sB, sC, i64_w, i32_w]
        rfl
       refine take_ (i := 5) (N := some 39) (v := ?_) (a' := ?_) #[true, true, true, true, true, true, true, false, false, false] rfl rfl (take_ofW HT_.out HW_.out (by kernel_rfl)) (fun _ _ _ h => h) (Or.inl ⟨by rfl, ?_⟩) hHeld ?_ ?_
       rotate_left
       ·rintro w' ⟨s0, s1⟩
        go_simp
        with_reducible rfl
       rotate_left
       ·simp only [Act.put, sA, sB, sC, i64_w, i32_w]
        rfl
       refine pure_ (i := 7) (N := some 41) (v := ?_) (a' := ?_) #[true, true, true, true, true, true, true, true, false, false] rfl rfl (any_of HT_.out (by kernel_rfl)) (fun _ _ _ h => h) (Or.inl ⟨by rfl, ?_⟩) ?_ ?_
       rotate_left
       ·intro w'
        go_simp
        with_reducible rfl
       rotate_left
       ·simp only [Act.put, sA, sB, sC, i64_w, i32_w]
        rfl
       refine pure_ (i := 8) (N := some 42) (v := ?_) (a' := ?_) #[true, true, true, true, true, true, true, true, true, false] rfl rfl (any_of HT_.out (by kernel_rfl)) (fun _ _ _ h => h) (Or.inl ⟨by rfl, ?_⟩) ?_ ?_
       rotate_left
       ·intro w'
        go_simp
        with_reducible rfl
       rotate_left
       ·simp only [Act.put, sA, sB, sC, i64_w, i32_w]
        rfl
       refine last_ (i := 9) (N := none) #[true, true, true, true, true, true, true, true, true, true] rfl rfl (one_of HT_.out (by kernel_rfl)) (by decide) (fun K hK => ?_)
       have hs52 : w51.cell? ⟨gb590, 0, none⟩ = some (.int .i64 x591000_5) := bcl BK590 0
       have hfs52 := blk_frozen BK590.out 0
       have hns52_0 := NB586_590.out
       have hns52_1 := NB587_590.out
       have hms52_0 := NB590_586.out
       have hms52_1 := NB590_587.out
       have hs53 : w51.cell? ⟨gb590, 1, none⟩ = some (.int .i64 x591001_5) := bcl BK590 1
       have hfs53 := blk_frozen BK590.out 1
       have hns53_0 := NB586_590.out
       have hns53_1 := NB587_590.out
       have hms53_0 := NB590_586.out
       have hms53_1 := NB590_587.out
       refine skip_ (w1 := ?_) (by rfl) rfl ?_ ?_
       rotate_left
       ·go_simp
        rfl
       refine hK.out _ _ ?_
       clear hK K
       refine done_ (done_of HT_.out (by kernel_rfl)) ?_
       have hcz54_0 : w51.cell? ⟨gb590, 0, none⟩ = some (.int .i64 x591000_5) := bcl BK590 0
       have hcz54_1 : w51.cell? ⟨gb590, 1, none⟩ = some (.int .i64 x591001_5) := bcl BK590 1
       have hfz54_0 := blk_frozen BK590.out 0
       have hfz54_1 := blk_frozen BK590.out 1
       try go_wp2_with (first | ((with_reducible refine gate_callee (f := 130) rfl ?_); refine goesL_ (some 45) rfl rfl Try.func130 (by kernel_rfl) rfl #[.agg #[.int .i64 (wrap64 (Int.tdiv x591000_5 t591)), .int .i64 (wrap64 (Int.tdiv x591001_5 t591))], .agg #[.int .i64 0, .int .i64 0]] rfl (by (try simp only [List.map_toArray, List.map_cons, List.map_nil]); first | done | rfl | (simp only [List.length_drop, List.length_take]; rfl)) ?_; (with_reducible refine (impl_compareVecs.calls kj5 (wrap64 (Int.tdiv x591000_5 t591)) (wrap64 (Int.tdiv x591001_5 t591)) 0 0 t592 _ A27.out).mono ?_); rintro e w55 ⟨rfl, hb⟩; refine ⟨_, rfl, ?_⟩; have n0_ := Aside0.mk (blk_below (g := gb586) (o := .cells #[.int .i64 a0_0, .int .i64 a0_1, .int .i64 a0_2, .int .i64 a0_3] 33 (0, 0)) (by (with_reducible repeat (first | refine blk_drewN ?_ _ | refine blk_drew ?_ | refine blk_alloc ?_ _)); refine blk_far ?_ NB586_590.out _; (with_reducible repeat (first | refine blk_drewN ?_ _ | refine blk_drew ?_ | refine blk_alloc ?_ _)); refine blk_far ?_ NB586_590.out _; (with_reducible repeat (first | refine blk_drewN ?_ _ | refine blk_drew ?_ | refine blk_alloc ?_ _)); exact BK586.out) hb); have n1_ := Aside0.mk (blk_below (g := gb587) (o := .cells #[.int .i64 0, .int .i64 0] 34 (0, 0)) (by (with_reducible repeat (first | refine blk_drewN ?_ _ | refine blk_drew ?_ | refine blk_alloc ?_ _)); refine blk_far ?_ NB587_590.out _; (with_reducible repeat (first | refine blk_drewN ?_ _ | refine blk_drew ?_ | refine blk_alloc ?_ _)); refine blk_far ?_ NB587_590.out _; (with_reducible repeat (first | refine blk_drewN ?_ _ | refine blk_drew ?_ | refine blk_alloc ?_ _)); exact BK587.out) hb); have n2_ := Aside0.mk (blk_below (g := gb590) (o := .cells #[.int .i64 (wrap64 (Int.tdiv x591000_5 t591)), .int .i64 (wrap64 (Int.tdiv x591001_5 t591))] 34 (0, 0)) (by (with_reducible repeat (first | refine blk_drewN ?_ _ | refine blk_drew ?_ | refine blk_alloc ?_ _)); refine blk_put (cs := #[.int .i64 (wrap64 (Int.tdiv x591000_5 t591)), .int .i64 x591001_5]) ?_ 1 _ rfl; (with_reducible repeat (first | refine blk_drewN ?_ _ | refine blk_drew ?_ | refine blk_alloc ?_ _)); refine blk_put (cs := #[.int .i64 x591000_5, .int .i64 x591001_5]) ?_ 0 _ rfl; (with_reducible repeat (first | refine blk_drewN ?_ _ | refine blk_drew ?_ | refine blk_alloc ?_ _)); exact BK590.out) hb); have n3_ := Aside0.mk (bst3 HB GE586 GE587 GE590 hb); clear BK586; clear BK587; clear BK590; clear HB; have BK586 := n0_; have BK587 := n1_; have BK590 := n2_; have HB := n3_; clear n0_ n1_ n2_ n3_; (try clear hb); (try clear hb2); (try clear hk); (try clear hi); have hcz56_0 : w55.cell? ⟨gb590, 0, none⟩ = some (.int .i64 (wrap64 (Int.tdiv x591000_5 t591))) := bcl BK590 0; have hcz56_1 : w55.cell? ⟨gb590, 1, none⟩ = some (.int .i64 (wrap64 (Int.tdiv x591001_5 t591))) := bcl BK590 1; have hfz56_0 := blk_frozen BK590.out 0; have hfz56_1 := blk_frozen BK590.out 1) | ((with_reducible refine gate_callee (f := 132) rfl ?_); refine goesL_ (some 50) rfl rfl Try.func132 (by kernel_rfl) rfl #[.agg #[.int .i64 (wrap64 (Int.tdiv x591000_5 t591)), .int .i64 (wrap64 (Int.tdiv x591001_5 t591))]] rfl (by (try simp only [List.map_toArray, List.map_cons, List.map_nil]); first | done | rfl | (simp only [List.length_drop, List.length_take]; rfl)) ?_; (with_reducible refine (impl_limited.calls (wrap64 (Int.tdiv x591000_5 t591)) (wrap64 (Int.tdiv x591001_5 t591)) t598 t599 t600 _ A46.out).mono ?_); rintro e w57 ⟨rfl, hb⟩; refine ⟨_, rfl, ?_⟩; have n0_ := Aside0.mk (bbl BK586 hb); have n1_ := Aside0.mk (bbl BK587 hb); have n2_ := Aside0.mk (bbl BK590 hb); have n3_ := Aside0.mk (bst3 HB GE586 GE587 GE590 hb); clear BK586; clear BK587; clear BK590; clear HB; have BK586 := n0_; have BK587 := n1_; have BK590 := n2_; have HB := n3_; clear n0_ n1_ n2_ n3_; (try clear hb); (try clear hb2); (try clear hk); (try clear hi); have hnb58 := NB587_586.out; have hnc58 := NB586_587.out; have hcz59_0 : w57.cell? ⟨gb587, 0, none⟩ = some (.int .i64 0) := bcl BK587 0; have hcz59_1 : w57.cell? ⟨gb587, 1, none⟩ = some (.int .i64 0) := bcl BK587 1; have hfz59_0 := blk_frozen BK587.out 0; have hfz59_1 := blk_frozen BK587.out 1))
       refine bodyPost_ret (results_ct rfl _ _ gb587 34 #[.int .i64 t598, .int .i64 t599] (0, 0) _ rfl (by (with_reducible repeat (first | refine blk_drewN ?_ _ | refine blk_drew ?_ | refine blk_alloc ?_ _)); refine blk_put (cs := #[.int .i64 t598, .int .i64 0]) ?_ 1 _ rfl; (with_reducible repeat (first | refine blk_drewN ?_ _ | refine blk_drew ?_ | refine blk_alloc ?_ _)); refine blk_put (cs := #[.int .i64 0, .int .i64 0]) ?_ 0 _ rfl; (with_reducible repeat (first | refine blk_drewN ?_ _ | refine blk_drew ?_ | refine blk_alloc ?_ _)); exact BK587.out) Try.underlying34 rfl (by kernel_rfl)) rfl ?_
       exact ⟨by first | rfl | (simp [errW_none, errW_some] <;> rfl) | (simp [*, errW_none, errW_some] <;> rfl), bbw3 HB GE586 GE587 GE590⟩
  ·replace c5 := Bool.eq_false_iff.mpr c5
   subst c5
   have H1 : (some (0, 0, 5)) = some (r1, r2, r3) := by rw [if_neg (show ¬ (false = true) by decide)] at H; first | done | exact H
   clear H
   have H := H1
   clear H1
   simp only [Option.some.injEq, Prod.mk.injEq] at H
   obtain ⟨rfl, rfl, rfl⟩ := H
   go_enter Try.func95, Try.ntmps95
   go_wp2_with (first | ((with_reducible refine gate_dst (N := 1) rfl ?_); refine box_event ?hg (N := 1) ?hd (cs := #[.int .i64 a0_0, .int .i64 a0_1, .int .i64 a0_2, .int .i64 a0_3]) (t := 33) ?hr ?_; (case hd => rfl); (case hg => rfl); (case hr => first | (go_simp; done) | (go_simp; rfl)); intro gb586 hg w60 hbox hb; have n0_ := Aside0.mk (bst0 HB hb); have n1_ := Aside0.mk (hbox); have n2_ := ngw0 hg HB; have n3_ := n2_; clear HB; have HB := n0_; have BK586 := n1_; have GW586 := n2_; have GE586 := n3_; clear n0_ n1_ n2_ n3_; clear hb hbox hg) | ((with_reducible refine gate_dst (N := 2) rfl ?_); refine box_event ?hg (N := 2) ?hd (cs := #[.int .i64 0, .int .i64 0]) (t := 34) ?hr ?_; (case hd => rfl); (case hg => rfl); (case hr => first | (go_simp; done) | (go_simp; rfl)); intro gb587 hg w61 hbox hb; have n0_ := Aside0.mk (bbl BK586 hb); have n1_ := Aside0.mk (bst1 HB GE586 hb); have n2_ := Aside0.mk (hbox); have n3_ := ngw1 hg HB GE586; have n4_ := n3_; have n5_ := nlt hg BK586; have n6_ := nsy (nlt hg BK586); clear BK586; clear HB; have BK586 := n0_; have HB := n1_; have BK587 := n2_; have GW587 := n3_; have GE587 := n4_; have NB586_587 := n5_; have NB587_586 := n6_; clear n0_ n1_ n2_ n3_ n4_ n5_ n6_; clear hb hbox hg; have hnb62 := NB586_587.out; have hnc62 := NB587_586.out; have hcz63_0 : w61.cell? ⟨gb586, 0, none⟩ = some (.int .i64 a0_0) := bcl BK586 0; have hcz63_1 : w61.cell? ⟨gb586, 1, none⟩ = some (.int .i64 a0_1) := bcl BK586 1; have hcz63_2 : w61.cell? ⟨gb586, 2, none⟩ = some (.int .i64 a0_2) := bcl BK586 2; have hcz63_3 : w61.cell? ⟨gb586, 3, none⟩ = some (.int .i64 a0_3) := bcl BK586 3; have hfz63_0 := blk_frozen BK586.out 0; have hfz63_1 := blk_frozen BK586.out 1; have hfz63_2 := blk_frozen BK586.out 2; have hfz63_3 := blk_frozen BK586.out 3) | ((with_reducible refine gate_callee (f := 129) rfl ?_); refine goesL_ (some 7) rfl rfl Try.func129 (by kernel_rfl) rfl #[.agg #[.int .i64 a0_0, .int .i64 a0_1, .int .i64 a0_2, .int .i64 a0_3]] rfl (by (try simp only [List.map_toArray, List.map_cons, List.map_nil]); first | done | rfl | (simp only [List.length_drop, List.length_take]; rfl)) ?_; (with_reducible refine (impl_IsMat.calls a0_0 a0_1 a0_2 a0_3 true _ A2.out).mono ?_); rintro e w64 ⟨rfl, hb⟩; refine ⟨_, rfl, ?_⟩; have n0_ := Aside0.mk (bbl BK586 hb); have n1_ := Aside0.mk (bbl BK587 hb); have n2_ := Aside0.mk (bst2 HB GE586 GE587 hb); clear BK586; clear BK587; clear HB; have BK586 := n0_; have BK587 := n1_; have HB := n2_; clear n0_ n1_ n2_; (try clear hb); (try clear hb2); (try clear hk); (try clear hi); have hcz65_0 : w64.cell? ⟨gb586, 0, none⟩ = some (.int .i64 a0_0) := bcl BK586 0; have hcz65_1 : w64.cell? ⟨gb586, 1, none⟩ = some (.int .i64 a0_1) := bcl BK586 1; have hcz65_2 : w64.cell? ⟨gb586, 2, none⟩ = some (.int .i64 a0_2) := bcl BK586 2; have hcz65_3 : w64.cell? ⟨gb586, 3, none⟩ = some (.int .i64 a0_3) := bcl BK586 3; have hfz65_0 := blk_frozen BK586.out 0; have hfz65_1 := blk_frozen BK586.out 1; have hfz65_2 := blk_frozen BK586.out 2; have hfz65_3 := blk_frozen BK586.out 3) | ((with_reducible refine gate_callee (f := 92) rfl ?_); refine goesL_ (some 11) rfl rfl Try.func92 (by kernel_rfl) rfl #[.agg #[.int .i64 a0_0, .int .i64 a0_1, .int .i64 a0_2, .int .i64 a0_3]] rfl (by (try simp only [List.map_toArray, List.map_cons, List.map_nil]); first | done | rfl | (simp only [List.length_drop, List.length_take]; rfl)) ?_; (with_reducible refine (impl_Mat_isReflection.calls k a0_0 a0_1 a0_2 a0_3 false _ A4.out).mono ?_); rintro e w66 ⟨rfl, hb⟩; refine ⟨_, rfl, ?_⟩; have n0_ := Aside0.mk (bbl BK586 hb); have n1_ := Aside0.mk (bbl BK587 hb); have n2_ := Aside0.mk (bst2 HB GE586 GE587 hb); clear BK586; clear BK587; clear HB; have BK586 := n0_; have BK587 := n1_; have HB := n2_; clear n0_ n1_ n2_; (try clear hb); (try clear hb2); (try clear hk); (try clear hi); have hcz67_0 : w66.cell? ⟨gb587, 0, none⟩ = some (.int .i64 0) := bcl BK587 0; have hcz67_1 : w66.cell? ⟨gb587, 1, none⟩ = some (.int .i64 0) := bcl BK587 1; have hfz67_0 := blk_frozen BK587.out 0; have hfz67_1 := blk_frozen BK587.out 1))
   refine bodyPost_ret (results_ct rfl _ _ gb587 34 #[.int .i64 0, .int .i64 0] (0, 0) _ rfl (by (with_reducible repeat (first | refine blk_drewN ?_ _ | refine blk_drew ?_ | refine blk_alloc ?_ _)); refine blk_put (cs := #[.int .i64 0, .int .i64 0]) ?_ 1 _ rfl; (with_reducible repeat (first | refine blk_drewN ?_ _ | refine blk_drew ?_ | refine blk_alloc ?_ _)); refine blk_put (cs := #[.int .i64 0, .int .i64 0]) ?_ 0 _ rfl; (with_reducible repeat (first | refine blk_drewN ?_ _ | refine blk_drew ?_ | refine blk_alloc ?_ _)); exact BK587.out) Try.underlying34 rfl (by kernel_rfl)) rfl ?_
   exact ⟨by first | rfl | (simp [errW_none, errW_some] <;> rfl) | (simp [*, errW_none, errW_some] <;> rfl), bbw2 HB GE586 GE587⟩
 ·replace c3 := Bool.eq_false_iff.mpr c3
  subst c3
  have H1 : (some (0, 0, 1)) = some (r1, r2, r3) := by rw [if_neg (show ¬ (false = true) by decide)] at H; first | done | exact H
  clear H
  have H := H1
  clear H1
  simp only [Option.some.injEq, Prod.mk.injEq] at H
  obtain ⟨rfl, rfl, rfl⟩ := H
  go_enter Try.func95, Try.ntmps95
  go_wp2_with (first | ((with_reducible refine gate_dst (N := 1) rfl ?_); refine box_event ?hg (N := 1) ?hd (cs := #[.int .i64 a0_0, .int .i64 a0_1, .int .i64 a0_2, .int .i64 a0_3]) (t := 33) ?hr ?_; (case hd => rfl); (case hg => rfl); (case hr => first | (go_simp; done) | (go_simp; rfl)); intro gb586 hg w68 hbox hb; have n0_ := Aside0.mk (bst0 HB hb); have n1_ := Aside0.mk (hbox); have n2_ := ngw0 hg HB; have n3_ := n2_; clear HB; have HB := n0_; have BK586 := n1_; have GW586 := n2_; have GE586 := n3_; clear n0_ n1_ n2_ n3_; clear hb hbox hg) | ((with_reducible refine gate_dst (N := 2) rfl ?_); refine box_event ?hg (N := 2) ?hd (cs := #[.int .i64 0, .int .i64 0]) (t := 34) ?hr ?_; (case hd => rfl); (case hg => rfl); (case hr => first | (go_simp; done) | (go_simp; rfl)); intro gb587 hg w69 hbox hb; have n0_ := Aside0.mk (bbl BK586 hb); have n1_ := Aside0.mk (bst1 HB GE586 hb); have n2_ := Aside0.mk (hbox); have n3_ := ngw1 hg HB GE586; have n4_ := n3_; have n5_ := nlt hg BK586; have n6_ := nsy (nlt hg BK586); clear BK586; clear HB; have BK586 := n0_; have HB := n1_; have BK587 := n2_; have GW587 := n3_; have GE587 := n4_; have NB586_587 := n5_; have NB587_586 := n6_; clear n0_ n1_ n2_ n3_ n4_ n5_ n6_; clear hb hbox hg; have hnb70 := NB586_587.out; have hnc70 := NB587_586.out; have hcz71_0 : w69.cell? ⟨gb586, 0, none⟩ = some (.int .i64 a0_0) := bcl BK586 0; have hcz71_1 : w69.cell? ⟨gb586, 1, none⟩ = some (.int .i64 a0_1) := bcl BK586 1; have hcz71_2 : w69.cell? ⟨gb586, 2, none⟩ = some (.int .i64 a0_2) := bcl BK586 2; have hcz71_3 : w69.cell? ⟨gb586, 3, none⟩ = some (.int .i64 a0_3) := bcl BK586 3; have hfz71_0 := blk_frozen BK586.out 0; have hfz71_1 := blk_frozen BK586.out 1; have hfz71_2 := blk_frozen BK586.out 2; have hfz71_3 := blk_frozen BK586.out 3) | ((with_reducible refine gate_callee (f := 129) rfl ?_); refine goesL_ (some 7) rfl rfl Try.func129 (by kernel_rfl) rfl #[.agg #[.int .i64 a0_0, .int .i64 a0_1, .int .i64 a0_2, .int .i64 a0_3]] rfl (by (try simp only [List.map_toArray, List.map_cons, List.map_nil]); first | done | rfl | (simp only [List.length_drop, List.length_take]; rfl)) ?_; (with_reducible refine (impl_IsMat.calls a0_0 a0_1 a0_2 a0_3 false _ A2.out).mono ?_); rintro e w72 ⟨rfl, hb⟩; refine ⟨_, rfl, ?_⟩; have n0_ := Aside0.mk (bbl BK586 hb); have n1_ := Aside0.mk (bbl BK587 hb); have n2_ := Aside0.mk (bst2 HB GE586 GE587 hb); clear BK586; clear BK587; clear HB; have BK586 := n0_; have BK587 := n1_; have HB := n2_; clear n0_ n1_ n2_; (try clear hb); (try clear hb2); (try clear hk); (try clear hi); have hcz73_0 : w72.cell? ⟨gb587, 0, none⟩ = some (.int .i64 0) := bcl BK587 0; have hcz73_1 : w72.cell? ⟨gb587, 1, none⟩ = some (.int .i64 0) := bcl BK587 1; have hfz73_0 := blk_frozen BK587.out 0; have hfz73_1 := blk_frozen BK587.out 1))
  refine bodyPost_ret (results_ct rfl _ _ gb587 34 #[.int .i64 0, .int .i64 0] (0, 0) _ rfl (by (with_reducible repeat (first | refine blk_drewN ?_ _ | refine blk_drew ?_ | refine blk_alloc ?_ _)); refine blk_put (cs := #[.int .i64 0, .int .i64 0]) ?_ 1 _ rfl; (with_reducible repeat (first | refine blk_drewN ?_ _ | refine blk_drew ?_ | refine blk_alloc ?_ _)); refine blk_put (cs := #[.int .i64 0, .int .i64 0]) ?_ 0 _ rfl; (with_reducible repeat (first | refine blk_drewN ?_ _ | refine blk_drew ?_ | refine blk_alloc ?_ _)); exact BK587.out) Try.underlying34 rfl (by kernel_rfl)) rfl ?_
  exact ⟨by first | rfl | (simp [errW_none, errW_some] <;> rfl) | (simp [*, errW_none, errW_some] <;> rfl), bbw2 HB GE586 GE587⟩

/-! ### impl_Mat_axis: function 55 -/
def impl_Mat_axis.f (k : Nat) (a0_0 : Int) (a0_1 : Int) (a0_2 : Int) (a0_3 : Int) : Option (Int × Int) := (impl_AxisOf.f k a0_0 a0_1 a0_2 a0_3).bind fun bt603 => (some (bt603.1, bt603.2.1))
set_option maxHeartbeats 8000000 in
set_option maxRecDepth 100000 in
theorem impl_Mat_axis.calls (k : Nat) (a0_0 : Int) (a0_1 : Int) (a0_2 : Int) (a0_3 : Int) (r1 : Int) (r2 : Int) (w : World) (h : impl_Mat_axis.f k a0_0 a0_1 a0_2 a0_3 = some (r1, r2)) :
  Calls Try.prog 55 #[.agg #[.int .i64 a0_0, .int .i64 a0_1, .int .i64 a0_2, .int .i64 a0_3]] w fun e w' => e = .returned (.agg #[.int .i64 r1, .int .i64 r2]) ∧ Below w.heap.size w w' := by
 have hu33 := Try.underlying33
 have hu34 := Try.underlying34
 have HB := Aside0.mk (Below.refl w.heap.size w)
 have H : ((impl_AxisOf.f k a0_0 a0_1 a0_2 a0_3).bind fun bt603 => (some (bt603.1, bt603.2.1))) = some (r1, r2) := h
 clear h
 replace H := Option.bind_eq_some_iff.mp H
 obtain ⟨⟨t603, t604, t605⟩, A20, H⟩ := H
 replace H : (some (t603, t604)) = some (r1, r2) := H
 have A2 := Aside0.mk A20
 clear A20
 simp only [Option.some.injEq, Prod.mk.injEq] at H
 obtain ⟨rfl, rfl⟩ := H
 go_enter Try.func55, Try.ntmps55
 go_wp2_with (first | ((with_reducible refine gate_dst (N := 1) rfl ?_); refine box_event ?hg (N := 1) ?hd (cs := #[.int .i64 a0_0, .int .i64 a0_1, .int .i64 a0_2, .int .i64 a0_3]) (t := 33) ?hr ?_; (case hd => rfl); (case hg => rfl); (case hr => first | (go_simp; done) | (go_simp; rfl)); intro gb601 hg w3 hbox hb; have n0_ := Aside0.mk (bst0 HB hb); have n1_ := Aside0.mk (hbox); have n2_ := ngw0 hg HB; have n3_ := n2_; clear HB; have HB := n0_; have BK601 := n1_; have GW601 := n2_; have GE601 := n3_; clear n0_ n1_ n2_ n3_; clear hb hbox hg) | ((with_reducible refine gate_dst (N := 2) rfl ?_); refine box_event ?hg (N := 2) ?hd (cs := #[.int .i64 0, .int .i64 0]) (t := 34) ?hr ?_; (case hd => rfl); (case hg => rfl); (case hr => first | (go_simp; done) | (go_simp; rfl)); intro gb602 hg w4 hbox hb; have n0_ := Aside0.mk (bbl BK601 hb); have n1_ := Aside0.mk (bst1 HB GE601 hb); have n2_ := Aside0.mk (hbox); have n3_ := ngw1 hg HB GE601; have n4_ := n3_; have n5_ := nlt hg BK601; have n6_ := nsy (nlt hg BK601); clear BK601; clear HB; have BK601 := n0_; have HB := n1_; have BK602 := n2_; have GW602 := n3_; have GE602 := n4_; have NB601_602 := n5_; have NB602_601 := n6_; clear n0_ n1_ n2_ n3_ n4_ n5_ n6_; clear hb hbox hg; have hnb5 := NB601_602.out; have hnc5 := NB602_601.out; have hcz6_0 : w4.cell? ⟨gb601, 0, none⟩ = some (.int .i64 a0_0) := bcl BK601 0; have hcz6_1 : w4.cell? ⟨gb601, 1, none⟩ = some (.int .i64 a0_1) := bcl BK601 1; have hcz6_2 : w4.cell? ⟨gb601, 2, none⟩ = some (.int .i64 a0_2) := bcl BK601 2; have hcz6_3 : w4.cell? ⟨gb601, 3, none⟩ = some (.int .i64 a0_3) := bcl BK601 3; have hfz6_0 := blk_frozen BK601.out 0; have hfz6_1 := blk_frozen BK601.out 1; have hfz6_2 := blk_frozen BK601.out 2; have hfz6_3 := blk_frozen BK601.out 3) | ((with_reducible refine gate_callee (f := 95) rfl ?_); refine goesL_ (some 7) rfl rfl Try.func95 (by kernel_rfl) rfl #[.agg #[.int .i64 a0_0, .int .i64 a0_1, .int .i64 a0_2, .int .i64 a0_3]] rfl (by (try simp only [List.map_toArray, List.map_cons, List.map_nil]); first | done | rfl | (simp only [List.length_drop, List.length_take]; rfl)) ?_; (with_reducible refine (impl_AxisOf.calls k a0_0 a0_1 a0_2 a0_3 t603 t604 t605 _ A2.out).mono ?_); rintro e w7 ⟨rfl, hb⟩; refine ⟨_, rfl, ?_⟩; have n0_ := Aside0.mk (bbl BK601 hb); have n1_ := Aside0.mk (bbl BK602 hb); have n2_ := Aside0.mk (bst2 HB GE601 GE602 hb); clear BK601; clear BK602; clear HB; have BK601 := n0_; have BK602 := n1_; have HB := n2_; clear n0_ n1_ n2_; (try clear hb); (try clear hb2); (try clear hk); (try clear hi)) | ((with_reducible refine gate_dst (N := 3) rfl ?_); refine box_event ?hg (N := 3) ?hd (cs := #[.int .i64 0, .int .i64 0]) (t := 34) ?hr ?_; (case hd => rfl); (case hg => rfl); (case hr => first | (go_simp; done) | (go_simp; rfl)); intro gb606 hg w8 hbox hb; have n0_ := Aside0.mk (bbl BK601 hb); have n1_ := Aside0.mk (bbl BK602 hb); have n2_ := Aside0.mk (bst2 HB GE601 GE602 hb); have n3_ := Aside0.mk (hbox); have n4_ := ngw2 hg HB GE601 GE602; have n5_ := n4_; have n6_ := nlt hg BK601; have n7_ := nsy (nlt hg BK601); have n8_ := nlt hg BK602; have n9_ := nsy (nlt hg BK602); clear BK601; clear BK602; clear HB; have BK601 := n0_; have BK602 := n1_; have HB := n2_; have BK606 := n3_; have GW606 := n4_; have GE606 := n5_; have NB601_606 := n6_; have NB606_601 := n7_; have NB602_606 := n8_; have NB606_602 := n9_; clear n0_ n1_ n2_ n3_ n4_ n5_ n6_ n7_ n8_ n9_; clear hb hbox hg; have hnb9 := NB606_601.out; have hnc9 := NB601_606.out; have hnb10 := NB606_602.out; have hnc10 := NB602_606.out; have hcz11_0 : w8.cell? ⟨gb606, 0, none⟩ = some (.int .i64 0) := bcl BK606 0; have hcz11_1 : w8.cell? ⟨gb606, 1, none⟩ = some (.int .i64 0) := bcl BK606 1; have hfz11_0 := blk_frozen BK606.out 0; have hfz11_1 := blk_frozen BK606.out 1; have hcz12_0 : w8.cell? ⟨gb602, 0, none⟩ = some (.int .i64 0) := bcl BK602 0; have hcz12_1 : w8.cell? ⟨gb602, 1, none⟩ = some (.int .i64 0) := bcl BK602 1; have hfz12_0 := blk_frozen BK602.out 0; have hfz12_1 := blk_frozen BK602.out 1))
 refine bodyPost_ret (results_cell_row rfl _ _ gb602 34 #[.int .i64 t603, .int .i64 t604] (0, 0) _ rfl (by (with_reducible repeat (first | refine blk_drewN ?_ _ | refine blk_drew ?_ | refine blk_alloc ?_ _)); refine blk_put (cs := #[.int .i64 t603, .int .i64 0]) ?_ 1 _ rfl; (with_reducible repeat (first | refine blk_drewN ?_ _ | refine blk_drew ?_ | refine blk_alloc ?_ _)); refine blk_put (cs := #[.int .i64 0, .int .i64 0]) ?_ 0 _ rfl; (with_reducible repeat (first | refine blk_drewN ?_ _ | refine blk_drew ?_ | refine blk_alloc ?_ _)); refine blk_far ?_ NB602_606.out _; (with_reducible repeat (first | refine blk_drewN ?_ _ | refine blk_drew ?_ | refine blk_alloc ?_ _)); refine blk_far ?_ NB602_606.out _; (with_reducible repeat (first | refine blk_drewN ?_ _ | refine blk_drew ?_ | refine blk_alloc ?_ _)); exact BK602.out) Try.underlying34 rfl (by kernel_rfl)) rfl ?_
 exact ⟨by first | rfl | (simp [errW_none, errW_some] <;> rfl) | (simp [*, errW_none, errW_some] <;> rfl), bbw3 HB GE601 GE602 GE606⟩
end Go.Proofs.Ytndfnaehpdkaiaa.PA
