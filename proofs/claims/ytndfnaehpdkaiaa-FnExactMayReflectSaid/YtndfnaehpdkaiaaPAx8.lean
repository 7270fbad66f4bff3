/- Walks written by program: each Go function that the law reaches comes to the plain function beside it. -/
import Derived.Test.YtndfnaehpdkaiaaPAx0
import Derived.Test.YtndfnaehpdkaiaaPAx6
namespace Go.Proofs.Ytndfnaehpdkaiaa.PA
open Go.RowKit Go.Proofs.YtndfnaehpdkaiaaW.PrintWords Go.Proofs.YtndfnaehpdkaiaaW.PrintLast Go.Proofs.YtndfnaehpdkaiaaW.PrintMore
attribute [local go_sem] max2_int min2_int max_two min_two max_three min_three max_four min_four   -- for this text's walks alone
set_option linter.unusedVariables false
set_option linter.unusedSimpArgs false

/-! ### impl_pointMats: function 122 -/
def impl_pointMats.l0 : Nat → Int → List (S33) → Int → Option ((List (S33)))
 | 0, _, _, _ => none
 | k + 1, x0, x3, x10 => if x10 < 81 then ((impl_Mat_apply.f (wrap64 ((wrap64 (Int.tdiv x10 27)) - 1)) (wrap64 ((Int.tmod (wrap64 (Int.tdiv x10 9)) 3) - 1)) (wrap64 ((Int.tmod (wrap64 (Int.tdiv x10 3)) 3) - 1)) (wrap64 ((Int.tmod x10 3) - 1)) 1 0).bind fun bt238 => ((impl_Mat_apply.f (wrap64 ((wrap64 (Int.tdiv x10 27)) - 1)) (wrap64 ((Int.tmod (wrap64 (Int.tdiv x10 9)) 3) - 1)) (wrap64 ((Int.tmod (wrap64 (Int.tdiv x10 3)) 3) - 1)) (wrap64 ((Int.tmod x10 3) - 1)) 0 1).bind fun bt240 => ((impl_Mat_apply.f (wrap64 ((wrap64 (Int.tdiv x10 27)) - 1)) (wrap64 ((Int.tmod (wrap64 (Int.tdiv x10 9)) 3) - 1)) (wrap64 ((Int.tmod (wrap64 (Int.tdiv x10 3)) 3) - 1)) (wrap64 ((Int.tmod x10 3) - 1)) 1 1).bind fun bt242 => ((impl_norm.f x0 bt238.1 bt238.2).bind fun t247 => (if t247 = 1 then ((impl_norm.f x0 bt240.1 bt240.2).bind fun t248 => (if t248 = 1 then ((impl_norm.f x0 bt242.1 bt242.2).bind fun t249 => (if t249 = (wrap64 (2 + x0)) then (if x3.length < 4398046511104 then (impl_pointMats.l0 k x0 (x3 ++ [(⟨wrap64 ((wrap64 (Int.tdiv x10 27)) - 1), wrap64 ((Int.tmod (wrap64 (Int.tdiv x10 9)) 3) - 1), wrap64 ((Int.tmod (wrap64 (Int.tdiv x10 3)) 3) - 1), wrap64 ((Int.tmod x10 3) - 1)⟩ : S33)]) (wrap64 (x10 + 1))) else (none)) else (impl_pointMats.l0 k x0 x3 (wrap64 (x10 + 1))))) else (impl_pointMats.l0 k x0 x3 (wrap64 (x10 + 1))))) else (impl_pointMats.l0 k x0 x3 (wrap64 (x10 + 1)))))))) else (some x3)
def impl_pointMats.f (k : Nat) (a0 : Int) : Option ((List (S33))) := impl_pointMats.l0 k a0 (([] : List (S33))) 0
def impl_pointMats.T6 : Bool × List (List Nat × List Nat) := (true, [([], []), ([], []), ([0, 1], [0, 1]), ([], []), ([], []), ([3, 4, 2], [3, 4]), ([], []), ([], []), ([6, 7, 5], [6, 7]), ([], []), ([], []), ([], []), ([9, 2, 8, 0, 1, 2, 9, 10, 11], [2, 9]), ([10, 5, 12, 0, 1, 2, 3, 4, 5, 9, 10, 11, 12], [5, 10]), ([11, 8, 13, 0, 1, 2, 3, 4, 5, 6, 7, 8, 9, 10, 11, 12, 13], [8, 11])])
def impl_pointMats.B6 : List Nat := [0, 0, 3, 0, 0, 31, 0, 0, 255, 0, 0, 0, 4095, 8191, 16383]
theorem impl_pointMats.tab6 : rtab .any (opsOf Try.f122 6) = impl_pointMats.T6 := by kernel_rfl
theorem impl_pointMats.bits6 : waitsOk impl_pointMats.T6.2 impl_pointMats.B6 = true := by kernel_rfl
set_option maxHeartbeats 8000000 in
set_option maxRecDepth 100000 in
theorem impl_pointMats.calls (k : Nat) (a0 : Int) (r : List (S33)) (w : World) (h : impl_pointMats.f k a0 = some r) :
  Calls Try.prog 122 #[.int .i64 a0] w fun e w' => ∃ v0_ : Value, e = .returned (v0_) ∧ Kd.R k33 33 w' w.heap.size (fun _ => True) v0_ r ∧ Below w.heap.size w w' := by
 have hu33 := Try.underlying33
 have hu34 := Try.underlying34
 have HB := Aside0.mk (Below.refl w.heap.size w)
 have H : (impl_pointMats.l0 k a0 (([] : List (S33))) 0) = some r := h
 clear h
 obtain ⟨y234, hy234⟩ : ∃ y_ : List (S33), y_ = (([] : List (S33))) := ⟨_, rfl⟩
 replace H : (impl_pointMats.l0 k a0 y234 0) = some r := by first | (rw [hy234]; with_reducible exact H) | (have H2_ := (Option.bind_some _ _).symm.trans H; rw [hy234]; with_reducible exact H2_) | (have H2_ := (Option.bind_some _ _).symm.trans H; with_reducible exact H2_) | with_reducible exact H | (rw [hy234]; exact H) | exact H
 have Ny234 := Aside0.mk hy234
 clear hy234
 have H' := Aside0.mk H
 clear H
 go_enter Try.func122, Try.ntmps122
 go_wp2_with (first | ((with_reducible refine gate_dst (N := 9) rfl ?_); refine Kd.R_lit k33 _ 33 ?hg (N := 9) ?hd (xs := ([] : List (S33))) (inner := []) (ok := fun _ => True) (okp := fun _ => True) ?hr ?hp (fun _ hk => hk) trivial (Below.refl _ _) (Nat.le_refl _) (by simp) ?_; (case hd => rfl); (case hg => rfl); (case hr => first | (go_simp; done) | (go_simp; rfl)); (case hp => exact (Reps.none _ _)); intro v235 w2 ho3 hb hg_ hnew_; clear hg_ hnew_; (first | rw [← Ny234.out] at ho3 | (simp only [Int.reduceToNat] at ho3; rw [← Ny234.out] at ho3)); have n0_ := Aside0.mk (Kd.R_lower ho3 (bsz0 HB)); have n1_ := Aside0.mk (bst0 HB hb); clear HB; have HO236 := n0_; have HB := n1_; clear n0_ n1_; clear hb ho3))
 go_loopg [3, 10] k (fun kq v3 v10 w' => ∃ (x3_1 : List (S33)) (x10_1 : Int), v10 = .int .i64 x10_1 ∧ Aside0 (impl_pointMats.l0 kq a0 x3_1 x10_1 = some r) ∧ Aside0 (kq ≤ k) ∧ Aside0 (Kd.R k33 33 w' w.heap.size (fun _ => True) v3 x3_1) ∧ Aside0 (Below w.heap.size w w'))
 case atStart => exact ⟨(y234), (0), (by first | rfl | (simp; done) | (simp [*]; done)), H', ⟨Nat.le_refl _⟩, ⟨by (with_reducible repeat (first | apply Kd.R_alloc | apply Kd.R_drewN | apply Kd.R_drew)); exact HO236.out⟩, ⟨bbw0 HB⟩⟩
 case round =>
  clear H'
  try clear c1
  try clear p2
  obtain ⟨x3_1, x10_1, rfl, HA, HK1, HO_3, HB⟩ := hrel
  cases gk with
  | zero => exact absurd HA.out (by simp [impl_pointMats.l0])
  | succ k1 =>
   have H := HA.out
   clear HA
   simp only [impl_pointMats.l0] at H
   by_cases c4 : x10_1 < 81
   ·rw [if_pos c4] at H
    have c4b0 : decide (x10_1 < 81) = true := decide_eq_true c4
    clear c4
    replace H := Option.bind_eq_some_iff.mp H
    obtain ⟨⟨t238, t239⟩, A50, H⟩ := H
    replace H : ((impl_Mat_apply.f (wrap64 ((wrap64 (Int.tdiv x10_1 27)) - 1)) (wrap64 ((Int.tmod (wrap64 (Int.tdiv x10_1 9)) 3) - 1)) (wrap64 ((Int.tmod (wrap64 (Int.tdiv x10_1 3)) 3) - 1)) (wrap64 ((Int.tmod x10_1 3) - 1)) 0 1).bind fun bt240 => ((impl_Mat_apply.f (wrap64 ((wrap64 (Int.tdiv x10_1 27)) - 1)) (wrap64 ((Int.tmod (wrap64 (Int.tdiv x10_1 9)) 3) - 1)) (wrap64 ((Int.tmod (wrap64 (Int.tdiv x10_1 3)) 3) - 1)) (wrap64 ((Int.tmod x10_1 3) - 1)) 1 1).bind fun bt242 => ((impl_norm.f a0 t238 t239).bind fun t247 => (if t247 = 1 then ((impl_norm.f a0 bt240.1 bt240.2).bind fun t248 => (if t248 = 1 then ((impl_norm.f a0 bt242.1 bt242.2).bind fun t249 => (if t249 = (wrap64 (2 + a0)) then (if x3_1.length < 4398046511104 then (impl_pointMats.l0 k1 a0 (x3_1 ++ [(⟨wrap64 ((wrap64 (Int.tdiv x10_1 27)) - 1), wrap64 ((Int.tmod (wrap64 (Int.tdiv x10_1 9)) 3) - 1), wrap64 ((Int.tmod (wrap64 (Int.tdiv x10_1 3)) 3) - 1), wrap64 ((Int.tmod x10_1 3) - 1)⟩ : S33)]) (wrap64 (x10_1 + 1))) else (none)) else (impl_pointMats.l0 k1 a0 x3_1 (wrap64 (x10_1 + 1))))) else (impl_pointMats.l0 k1 a0 x3_1 (wrap64 (x10_1 + 1))))) else (impl_pointMats.l0 k1 a0 x3_1 (wrap64 (x10_1 + 1))))))) = some r := H
    have A5 := Aside0.mk A50
    clear A50
    replace H := Option.bind_eq_some_iff.mp H
    obtain ⟨⟨t240, t241⟩, A60, H⟩ := H
    replace H : ((impl_Mat_apply.f (wrap64 ((wrap64 (Int.tdiv x10_1 27)) - 1)) (wrap64 ((Int.tmod (wrap64 (Int.tdiv x10_1 9)) 3) - 1)) (wrap64 ((Int.tmod (wrap64 (Int.tdiv x10_1 3)) 3) - 1)) (wrap64 ((Int.tmod x10_1 3) - 1)) 1 1).bind fun bt242 => ((impl_norm.f a0 t238 t239).bind fun t247 => (if t247 = 1 then ((impl_norm.f a0 t240 t241).bind fun t248 => (if t248 = 1 then ((impl_norm.f a0 bt242.1 bt242.2).bind fun t249 => (if t249 = (wrap64 (2 + a0)) then (if x3_1.length < 4398046511104 then (impl_pointMats.l0 k1 a0 (x3_1 ++ [(⟨wrap64 ((wrap64 (Int.tdiv x10_1 27)) - 1), wrap64 ((Int.tmod (wrap64 (Int.tdiv x10_1 9)) 3) - 1), wrap64 ((Int.tmod (wrap64 (Int.tdiv x10_1 3)) 3) - 1), wrap64 ((Int.tmod x10_1 3) - 1)⟩ : S33)]) (wrap64 (x10_1 + 1))) else (none)) else (impl_pointMats.l0 k1 a0 x3_1 (wrap64 (x10_1 + 1))))) else (impl_pointMats.l0 k1 a0 x3_1 (wrap64 (x10_1 + 1))))) else (impl_pointMats.l0 k1 a0 x3_1 (wrap64 (x10_1 + 1)))))) = some r := H
    have A6 := Aside0.mk A60
    clear A60
    replace H := Option.bind_eq_some_iff.mp H
    obtain ⟨⟨t242, t243⟩, A70, H⟩ := H
    replace H : ((impl_norm.f a0 t238 t239).bind fun t247 => (if t247 = 1 then ((impl_norm.f a0 t240 t241).bind fun t248 => (if t248 = 1 then ((impl_norm.f a0 t242 t243).bind fun t249 => (if t249 = (wrap64 (2 + a0)) then (if x3_1.length < 4398046511104 then (impl_pointMats.l0 k1 a0 (x3_1 ++ [(⟨wrap64 ((wrap64 (Int.tdiv x10_1 27)) - 1), wrap64 ((Int.tmod (wrap64 (Int.tdiv x10_1 9)) 3) - 1), wrap64 ((Int.tmod (wrap64 (Int.tdiv x10_1 3)) 3) - 1), wrap64 ((Int.tmod x10_1 3) - 1)⟩ : S33)]) (wrap64 (x10_1 + 1))) else (none)) else (impl_pointMats.l0 k1 a0 x3_1 (wrap64 (x10_1 + 1))))) else (impl_pointMats.l0 k1 a0 x3_1 (wrap64 (x10_1 + 1))))) else (impl_pointMats.l0 k1 a0 x3_1 (wrap64 (x10_1 + 1))))) = some r := H
    have A7 := Aside0.mk A70
    clear A70
    have Hq_ := Aside0.mk H
    clear H
    try go_wp2_with (first | ((with_reducible refine gate_dst (N := 5) rfl ?_); refine box_event ?hg (N := 5) ?hd (cs := #[.int .i64 0, .int .i64 0, .int .i64 0, .int .i64 0]) (t := 33) ?hr ?_; (case hd => rfl); (case hg => rfl); (case hr => first | (go_simp; done) | (go_simp; rfl)); intro gb237 hg w15 hbox hb; have n0_ := Aside0.mk (Kd.R_below (Kd.R_elderB (by (with_reducible repeat (first | apply Kd.R_alloc | apply Kd.R_drewN | apply Kd.R_drew)); exact HO_3.out) gb237 (Nat.le_of_eq hg.symm)) hb); have n1_ := Aside0.mk (bst0 HB hb); have n2_ := Aside0.mk (hbox); have n3_ := ngw0 hg HB; have n4_ := n3_; clear HO_3; clear HB; have HO_3 := n0_; have HB := n1_; have BK237 := n2_; have GW237 := n3_; have GE237 := n4_; clear n0_ n1_ n2_ n3_ n4_; clear hb hbox hg; have hcz16_0 : w15.cell? ⟨gb237, 0, none⟩ = some (.int .i64 0) := bcl BK237 0; have hcz16_1 : w15.cell? ⟨gb237, 1, none⟩ = some (.int .i64 0) := bcl BK237 1; have hcz16_2 : w15.cell? ⟨gb237, 2, none⟩ = some (.int .i64 0) := bcl BK237 2; have hcz16_3 : w15.cell? ⟨gb237, 3, none⟩ = some (.int .i64 0) := bcl BK237 3; have hfz16_0 := blk_frozen BK237.out 0; have hfz16_1 := blk_frozen BK237.out 1; have hfz16_2 := blk_frozen BK237.out 2; have hfz16_3 := blk_frozen BK237.out 3))
    have n0_ : Aside0 (Kd.R k33 33 ((((w15.setCell ⟨gb237, 0, none⟩ (.int .i64 (wrap64 ((wrap64 (Int.tdiv x10_1 27)) - 1)))).setCell ⟨gb237, 1, none⟩ (.int .i64 (wrap64 ((Int.tmod (wrap64 (Int.tdiv x10_1 9)) 3) - 1)))).setCell ⟨gb237, 2, none⟩ (.int .i64 (wrap64 ((Int.tmod (wrap64 (Int.tdiv x10_1 3)) 3) - 1)))).setCell ⟨gb237, 3, none⟩ (.int .i64 (wrap64 ((Int.tmod x10_1 3) - 1)))) w.heap.size (fun k_ => k_ ≠ gb237) u3 x3_1) := ⟨by (with_reducible repeat (first | apply Kd.R_alloc | apply Kd.R_drewN | apply Kd.R_drew)); exact Kd.R_mono (Kd.R_far (p := ⟨gb237, 3, none⟩) (Kd.R_far (p := ⟨gb237, 2, none⟩) (Kd.R_far (p := ⟨gb237, 1, none⟩) (Kd.R_far (p := ⟨gb237, 0, none⟩) (Kd.R_mono HO_3.out (fun k_ hk => (⟨hk, hk.2⟩ : _ ∧ k_ ≠ gb237))) (fun _ hk => hk.2) (.int .i64 (wrap64 ((wrap64 (Int.tdiv x10_1 27)) - 1)))) (fun _ hk => hk.2) (.int .i64 (wrap64 ((Int.tmod (wrap64 (Int.tdiv x10_1 9)) 3) - 1)))) (fun _ hk => hk.2) (.int .i64 (wrap64 ((Int.tmod (wrap64 (Int.tdiv x10_1 3)) 3) - 1)))) (fun _ hk => hk.2) (.int .i64 (wrap64 ((Int.tmod x10_1 3) - 1)))) (fun _ hk => hk.1.2)⟩
    have n1_ : Aside0 (((((w15.setCell ⟨gb237, 0, none⟩ (.int .i64 (wrap64 ((wrap64 (Int.tdiv x10_1 27)) - 1)))).setCell ⟨gb237, 1, none⟩ (.int .i64 (wrap64 ((Int.tmod (wrap64 (Int.tdiv x10_1 9)) 3) - 1)))).setCell ⟨gb237, 2, none⟩ (.int .i64 (wrap64 ((Int.tmod (wrap64 (Int.tdiv x10_1 3)) 3) - 1)))).setCell ⟨gb237, 3, none⟩ (.int .i64 (wrap64 ((Int.tmod x10_1 3) - 1)))).heap[gb237]? = some (.cells #[.int .i64 (wrap64 ((wrap64 (Int.tdiv x10_1 27)) - 1)), .int .i64 (wrap64 ((Int.tmod (wrap64 (Int.tdiv x10_1 9)) 3) - 1)), .int .i64 (wrap64 ((Int.tmod (wrap64 (Int.tdiv x10_1 3)) 3) - 1)), .int .i64 (wrap64 ((Int.tmod x10_1 3) - 1))] 33 (0, 0))) := ⟨by (with_reducible repeat (first | refine blk_drewN ?_ _ | refine blk_drew ?_ | refine blk_alloc ?_ _)); refine blk_put (cs := #[.int .i64 (wrap64 ((wrap64 (Int.tdiv x10_1 27)) - 1)), .int .i64 (wrap64 ((Int.tmod (wrap64 (Int.tdiv x10_1 9)) 3) - 1)), .int .i64 (wrap64 ((Int.tmod (wrap64 (Int.tdiv x10_1 3)) 3) - 1)), .int .i64 0]) ?_ 3 _ rfl; (with_reducible repeat (first | refine blk_drewN ?_ _ | refine blk_drew ?_ | refine blk_alloc ?_ _)); refine blk_put (cs := #[.int .i64 (wrap64 ((wrap64 (Int.tdiv x10_1 27)) - 1)), .int .i64 (wrap64 ((Int.tmod (wrap64 (Int.tdiv x10_1 9)) 3) - 1)), .int .i64 0, .int .i64 0]) ?_ 2 _ rfl; (with_reducible repeat (first | refine blk_drewN ?_ _ | refine blk_drew ?_ | refine blk_alloc ?_ _)); refine blk_put (cs := #[.int .i64 (wrap64 ((wrap64 (Int.tdiv x10_1 27)) - 1)), .int .i64 0, .int .i64 0, .int .i64 0]) ?_ 1 _ rfl; (with_reducible repeat (first | refine blk_drewN ?_ _ | refine blk_drew ?_ | refine blk_alloc ?_ _)); refine blk_put (cs := #[.int .i64 0, .int .i64 0, .int .i64 0, .int .i64 0]) ?_ 0 _ rfl; (with_reducible repeat (first | refine blk_drewN ?_ _ | refine blk_drew ?_ | refine blk_alloc ?_ _)); exact BK237.out⟩
    have n2_ : Aside0 (Below w.heap.size w ((((w15.setCell ⟨gb237, 0, none⟩ (.int .i64 (wrap64 ((wrap64 (Int.tdiv x10_1 27)) - 1)))).setCell ⟨gb237, 1, none⟩ (.int .i64 (wrap64 ((Int.tmod (wrap64 (Int.tdiv x10_1 9)) 3) - 1)))).setCell ⟨gb237, 2, none⟩ (.int .i64 (wrap64 ((Int.tmod (wrap64 (Int.tdiv x10_1 3)) 3) - 1)))).setCell ⟨gb237, 3, none⟩ (.int .i64 (wrap64 ((Int.tmod x10_1 3) - 1))))) := ⟨bbw1 HB GE237⟩
    (try clear HO_3)
    (try clear BK237)
    (try clear HB)
    generalize ((((w15.setCell ⟨gb237, 0, none⟩ (.int .i64 (wrap64 ((wrap64 (Int.tdiv x10_1 27)) - 1)))).setCell ⟨gb237, 1, none⟩ (.int .i64 (wrap64 ((Int.tmod (wrap64 (Int.tdiv x10_1 9)) 3) - 1)))).setCell ⟨gb237, 2, none⟩ (.int .i64 (wrap64 ((Int.tmod (wrap64 (Int.tdiv x10_1 3)) 3) - 1)))).setCell ⟨gb237, 3, none⟩ (.int .i64 (wrap64 ((Int.tmod x10_1 3) - 1)))) = w17 at n0_ n1_ n2_ ⊢
    have HO_3 := n0_
    have BK237 := n1_
    have HB := n2_
    clear n0_ n1_ n2_
    have n0_ := Aside0.mk (Kd.R_drew HO_3.out)
    have n1_ := Aside0.mk (blk_drew BK237.out)
    have n2_ := Aside0.mk (below_drew1 HB.out)
    clear HO_3
    clear BK237
    clear HB
    have HO_3 := n0_
    have BK237 := n1_
    have HB := n2_
    clear n0_ n1_ n2_
    refine start_ (n := 15) (S := fun w' => True) (ds := []) #[false, false, false, false, false, false, false, false, false, false, false, false, false, false, false] (by kernel_rfl) rfl rfl trivial (fun hHeld => ?_); refine with_tabW impl_pointMats.tab6 impl_pointMats.bits6 (fun HT_ HW_ => ?_)
    generalize w17.drew = w18 at HO_3 BK237 HB hHeld ⊢
    refine inv_at [0, 1, 2, 3, 4, 5, 6, 7, 8, 9, 10, 11, 12, 13, 14] (fun a0_ b a w' => ∃ (gb244 : Nat) (gb245 : Nat) (gb246 : Nat) (m9_ : Value) (m10_ : Value) (m11_ : Value), a = putSel a0_ b [(0, 28, .agg #[.int .i64 (wrap64 ((wrap64 (Int.tdiv x10_1 27)) - 1)), .int .i64 (wrap64 ((Int.tmod (wrap64 (Int.tdiv x10_1 9)) 3) - 1)), .int .i64 (wrap64 ((Int.tmod (wrap64 (Int.tdiv x10_1 3)) 3) - 1)), .int .i64 (wrap64 ((Int.tmod x10_1 3) - 1))]), (1, 29, .agg #[.int .i64 1, .int .i64 0]), (2, 30, .agg #[.int .i64 t238, .int .i64 t239]), (3, 31, .agg #[.int .i64 (wrap64 ((wrap64 (Int.tdiv x10_1 27)) - 1)), .int .i64 (wrap64 ((Int.tmod (wrap64 (Int.tdiv x10_1 9)) 3) - 1)), .int .i64 (wrap64 ((Int.tmod (wrap64 (Int.tdiv x10_1 3)) 3) - 1)), .int .i64 (wrap64 ((Int.tmod x10_1 3) - 1))]), (4, 32, .agg #[.int .i64 0, .int .i64 1]), (5, 33, .agg #[.int .i64 t240, .int .i64 t241]), (6, 34, .agg #[.int .i64 (wrap64 ((wrap64 (Int.tdiv x10_1 27)) - 1)), .int .i64 (wrap64 ((Int.tmod (wrap64 (Int.tdiv x10_1 9)) 3) - 1)), .int .i64 (wrap64 ((Int.tmod (wrap64 (Int.tdiv x10_1 3)) 3) - 1)), .int .i64 (wrap64 ((Int.tmod x10_1 3) - 1))]), (7, 35, .agg #[.int .i64 1, .int .i64 1]), (8, 36, .agg #[.int .i64 t242, .int .i64 t243]), (9, 6, m9_), (10, 7, m10_), (11, 8, m11_)] ∧ (Kd.R k33 33 w' w.heap.size (fun k_ => k_ ≠ gb237) u3 x3_1) ∧ (w'.heap[gb237]? = some (.cells #[.int .i64 (wrap64 ((wrap64 (Int.tdiv x10_1 27)) - 1)), .int .i64 (wrap64 ((Int.tmod (wrap64 (Int.tdiv x10_1 9)) 3) - 1)), .int .i64 (wrap64 ((Int.tmod (wrap64 (Int.tdiv x10_1 3)) 3) - 1)), .int .i64 (wrap64 ((Int.tmod x10_1 3) - 1))] 33 (0, 0))) ∧ (Below w.heap.size w w') ∧ (b 9 = true → b 10 = true → gb245 ≠ gb244) ∧ (b 9 = true → b 10 = true → gb244 ≠ gb245) ∧ (b 9 = true → b 11 = true → gb246 ≠ gb244) ∧ (b 9 = true → b 11 = true → gb244 ≠ gb246) ∧ (b 10 = true → b 11 = true → gb246 ≠ gb245) ∧ (b 10 = true → b 11 = true → gb245 ≠ gb246) ∧ (b 9 = true → b 12 = false → w'.heap[gb244]? = some (.cells #[.int .i64 0, .int .i64 0] 34 (0, 0))) ∧ (b 9 = true → w.heap.size ≤ gb244) ∧ (b 9 = true → w.heap.size ≤ gb244) ∧ (b 9 = true → gb237 ≠ gb244) ∧ (b 9 = true → gb244 ≠ gb237) ∧ (b 10 = true → b 13 = false → w'.heap[gb245]? = some (.cells #[.int .i64 0, .int .i64 0] 34 (0, 0))) ∧ (b 10 = true → w.heap.size ≤ gb245) ∧ (b 10 = true → w.heap.size ≤ gb245) ∧ (b 10 = true → gb237 ≠ gb245) ∧ (b 10 = true → gb245 ≠ gb237) ∧ (b 11 = true → b 14 = false → w'.heap[gb246]? = some (.cells #[.int .i64 0, .int .i64 0] 34 (0, 0))) ∧ (b 11 = true → w.heap.size ≤ gb246) ∧ (b 11 = true → w.heap.size ≤ gb246) ∧ (b 11 = true → gb237 ≠ gb246) ∧ (b 11 = true → gb246 ≠ gb237) ∧ (b 12 = true → w'.heap[gb244]? = some (.cells #[.int .i64 t238, .int .i64 t239] 34 (0, 0))) ∧ (b 13 = true → w'.heap[gb245]? = some (.cells #[.int .i64 t240, .int .i64 t241] 34 (0, 0))) ∧ (b 14 = true → w'.heap[gb246]? = some (.cells #[.int .i64 t242, .int .i64 t243] 34 (0, 0))) ∧ (b 9 = true → (m9_ : Value) = .pointer (some ⟨gb244, 0, none⟩)) ∧ (b 10 = true → (m10_ : Value) = .pointer (some ⟨gb245, 0, none⟩)) ∧ (b 11 = true → (m11_ : Value) = .pointer (some ⟨gb246, 0, none⟩))) HT_.out HW_.out (by kernel_rfl) (by kernel_rfl) ?_ ?_ ?_
    ·exact ⟨0, 0, 0, .bool false, .bool false, .bool false, by simp only [putSel, Bool.false_eq_true, if_false], HO_3.out, BK237.out, HB.out, fun h_ => absurd h_ (by decide), fun h_ => absurd h_ (by decide), fun h_ => absurd h_ (by decide), fun h_ => absurd h_ (by decide), fun h_ => absurd h_ (by decide), fun h_ => absurd h_ (by decide), fun h_ => absurd h_ (by decide), fun h_ => absurd h_ (by decide), fun h_ => absurd h_ (by decide), fun h_ => absurd h_ (by decide), fun h_ => absurd h_ (by decide), fun h_ => absurd h_ (by decide), fun h_ => absurd h_ (by decide), fun h_ => absurd h_ (by decide), fun h_ => absurd h_ (by decide), fun h_ => absurd h_ (by decide), fun h_ => absurd h_ (by decide), fun h_ => absurd h_ (by decide), fun h_ => absurd h_ (by decide), fun h_ => absurd h_ (by decide), fun h_ => absurd h_ (by decide), fun h_ => absurd h_ (by decide), fun h_ => absurd h_ (by decide), fun h_ => absurd h_ (by decide), fun h_ => absurd h_ (by decide), fun h_ => absurd h_ (by decide), fun h_ => absurd h_ (by decide)⟩
    ·skip
     clear BK237 HB HO_3
     refine steps_cons ?_ ?_
     ·rintro b a w' ⟨gb244, gb245, gb246, m9_, m10_, m11_, ha, Q_HO_3, Q_BK237, Q_HB, Q_NB245_244, Q_NB244_245, Q_NB246_244, Q_NB244_246, Q_NB246_245, Q_NB245_246, Q_BK244, Q_GW244, Q_GE244, Q_NB237_244, Q_NB244_237, Q_BK245, Q_GW245, Q_GE245, Q_NB237_245, Q_NB245_237, Q_BK246, Q_GW246, Q_GE246, Q_NB237_246, Q_NB246_237, Q_BK244_e12, Q_BK245_e13, Q_BK246_e14, Q_X9_, Q_X10_, Q_X11_⟩ hb_ hon hoff
      refine ⟨_, rfl, fun K hK => ?_⟩
      have e5 : a.tmps[5]? = some (.pointer (some ⟨gb237, 0, none⟩)) := by rw [ha]; exact (putSel_off rfl).trans rfl
      replace ha := Aside0.mk ha
      have HO_3 := Aside0.mk Q_HO_3
      have BK237 := Aside0.mk Q_BK237
      have HB := Aside0.mk Q_HB
      have hc0_ : w'.cell? ⟨gb237, 0, none⟩ = some (.int .i64 (wrap64 ((wrap64 (Int.tdiv x10_1 27)) - 1))) := bcl BK237 0
      have hc1_ : w'.cell? ⟨gb237, 1, none⟩ = some (.int .i64 (wrap64 ((Int.tmod (wrap64 (Int.tdiv x10_1 9)) 3) - 1))) := bcl BK237 1
      have hc2_ : w'.cell? ⟨gb237, 2, none⟩ = some (.int .i64 (wrap64 ((Int.tmod (wrap64 (Int.tdiv x10_1 3)) 3) - 1))) := bcl BK237 2
      have hc3_ : w'.cell? ⟨gb237, 3, none⟩ = some (.int .i64 (wrap64 ((Int.tmod x10_1 3) - 1))) := bcl BK237 3
      refine value_ (w1 := w') (v := .agg #[.int .i64 (wrap64 ((wrap64 (Int.tdiv x10_1 27)) - 1)), .int .i64 (wrap64 ((Int.tmod (wrap64 (Int.tdiv x10_1 9)) 3) - 1)), .int .i64 (wrap64 ((Int.tmod (wrap64 (Int.tdiv x10_1 3)) 3) - 1)), .int .i64 (wrap64 ((Int.tmod x10_1 3) - 1))]) (by rfl) rfl ?_ ?_
      ·go_simp
       (try simp only [i64_w])
       try rfl
      refine hK.out _ _ ⟨gb244, gb245, gb246, m9_, m10_, m11_, (by rw [ha.out]; exact putSel_upk 0 hb_ rfl rfl rfl), Q_HO_3, Q_BK237, Q_HB, Q_NB245_244, Q_NB244_245, Q_NB246_244, Q_NB244_246, Q_NB246_245, Q_NB245_246, Q_BK244, Q_GW244, Q_GE244, Q_NB237_244, Q_NB244_237, Q_BK245, Q_GW245, Q_GE245, Q_NB237_245, Q_NB245_237, Q_BK246, Q_GW246, Q_GE246, Q_NB237_246, Q_NB246_237, fun h0_ => absurd ((hoff 12 (by kernel_rfl)).symm.trans h0_) (by decide), fun h0_ => absurd ((hoff 13 (by kernel_rfl)).symm.trans h0_) (by decide), fun h0_ => absurd ((hoff 14 (by kernel_rfl)).symm.trans h0_) (by decide), Q_X9_, Q_X10_, Q_X11_⟩
     refine steps_cons ?_ ?_
     ·rintro b a w' ⟨gb244, gb245, gb246, m9_, m10_, m11_, ha, Q_HO_3, Q_BK237, Q_HB, Q_NB245_244, Q_NB244_245, Q_NB246_244, Q_NB244_246, Q_NB246_245, Q_NB245_246, Q_BK244, Q_GW244, Q_GE244, Q_NB237_244, Q_NB244_237, Q_BK245, Q_GW245, Q_GE245, Q_NB237_245, Q_NB245_237, Q_BK246, Q_GW246, Q_GE246, Q_NB237_246, Q_NB246_237, Q_BK244_e12, Q_BK245_e13, Q_BK246_e14, Q_X9_, Q_X10_, Q_X11_⟩ hb_ hon hoff
      refine ⟨_, rfl, fun K hK => ?_⟩
      replace ha := Aside0.mk ha
      have HO_3 := Aside0.mk Q_HO_3
      have BK237 := Aside0.mk Q_BK237
      have HB := Aside0.mk Q_HB
      refine value_ (w1 := w') (v := .agg #[.int .i64 1, .int .i64 0]) (by rfl) rfl ?_ ?_
      ·go_simp
       (try simp only [i64_w])
       try rfl
      refine hK.out _ _ ⟨gb244, gb245, gb246, m9_, m10_, m11_, (by rw [ha.out]; exact putSel_upk 1 hb_ rfl rfl rfl), Q_HO_3, Q_BK237, Q_HB, Q_NB245_244, Q_NB244_245, Q_NB246_244, Q_NB244_246, Q_NB246_245, Q_NB245_246, Q_BK244, Q_GW244, Q_GE244, Q_NB237_244, Q_NB244_237, Q_BK245, Q_GW245, Q_GE245, Q_NB237_245, Q_NB245_237, Q_BK246, Q_GW246, Q_GE246, Q_NB237_246, Q_NB246_237, fun h0_ => absurd ((hoff 12 (by kernel_rfl)).symm.trans h0_) (by decide), fun h0_ => absurd ((hoff 13 (by kernel_rfl)).symm.trans h0_) (by decide), fun h0_ => absurd ((hoff 14 (by kernel_rfl)).symm.trans h0_) (by decide), Q_X9_, Q_X10_, Q_X11_⟩
     refine steps_cons ?_ ?_
     ·rintro b a w' ⟨gb244, gb245, gb246, m9_, m10_, m11_, ha, Q_HO_3, Q_BK237, Q_HB, Q_NB245_244, Q_NB244_245, Q_NB246_244, Q_NB244_246, Q_NB246_245, Q_NB245_246, Q_BK244, Q_GW244, Q_GE244, Q_NB237_244, Q_NB244_237, Q_BK245, Q_GW245, Q_GE245, Q_NB237_245, Q_NB245_237, Q_BK246, Q_GW246, Q_GE246, Q_NB237_246, Q_NB246_237, Q_BK244_e12, Q_BK245_e13, Q_BK246_e14, Q_X9_, Q_X10_, Q_X11_⟩ hb_ hon hoff
      refine ⟨_, rfl, fun K hK => ?_⟩
      have e28 : a.tmps[28]? = some (.agg #[.int .i64 (wrap64 ((wrap64 (Int.tdiv x10_1 27)) - 1)), .int .i64 (wrap64 ((Int.tmod (wrap64 (Int.tdiv x10_1 9)) 3) - 1)), .int .i64 (wrap64 ((Int.tmod (wrap64 (Int.tdiv x10_1 3)) 3) - 1)), .int .i64 (wrap64 ((Int.tmod x10_1 3) - 1))]) := by rw [ha]; exact putSel_on (e := (0, 28, .agg #[.int .i64 (wrap64 ((wrap64 (Int.tdiv x10_1 27)) - 1)), .int .i64 (wrap64 ((Int.tmod (wrap64 (Int.tdiv x10_1 9)) 3) - 1)), .int .i64 (wrap64 ((Int.tmod (wrap64 (Int.tdiv x10_1 3)) 3) - 1)), .int .i64 (wrap64 ((Int.tmod x10_1 3) - 1))])) 0 rfl rfl (hon 0 (by kernel_rfl)) rfl
      have e29 : a.tmps[29]? = some (.agg #[.int .i64 1, .int .i64 0]) := by rw [ha]; exact putSel_on (e := (1, 29, .agg #[.int .i64 1, .int .i64 0])) 1 rfl rfl (hon 1 (by kernel_rfl)) rfl
      replace ha := Aside0.mk ha
      have HO_3 := Aside0.mk Q_HO_3
      have BK237 := Aside0.mk Q_BK237
      have HB := Aside0.mk Q_HB
      refine goes_ Try.func124 (by kernel_rfl) rfl #[.agg #[.int .i64 (wrap64 ((wrap64 (Int.tdiv x10_1 27)) - 1)), .int .i64 (wrap64 ((Int.tmod (wrap64 (Int.tdiv x10_1 9)) 3) - 1)), .int .i64 (wrap64 ((Int.tmod (wrap64 (Int.tdiv x10_1 3)) 3) - 1)), .int .i64 (wrap64 ((Int.tmod x10_1 3) - 1))], .agg #[.int .i64 1, .int .i64 0]] (by rfl) rfl rfl (by first | (simp only [List.map_toArray, List.map_cons, List.map_nil, Act.eval, Array.getD_eq_getD_getElem?, Option.getD_some, e28, e29]; done) | (simp only [List.map_toArray, List.map_cons, List.map_nil, Act.eval, Array.getD_eq_getD_getElem?, Option.getD_some, e28, e29]; rfl)) ?_
      with_reducible refine (impl_Mat_apply.calls (wrap64 ((wrap64 (Int.tdiv x10_1 27)) - 1)) (wrap64 ((Int.tmod (wrap64 (Int.tdiv x10_1 9)) 3) - 1)) (wrap64 ((Int.tmod (wrap64 (Int.tdiv x10_1 3)) 3) - 1)) (wrap64 ((Int.tmod x10_1 3) - 1)) 1 0 t238 t239 _ A5.out).mono ?_
      rintro e w19 ⟨rfl, hb⟩
      refine ⟨_, rfl, ?_⟩
      have n0_ := Aside0.mk (Kd.R_below (by (with_reducible repeat (first | apply Kd.R_alloc | apply Kd.R_drewN | apply Kd.R_drew)); exact HO_3.out) hb)
      have n1_ := Aside0.mk (bbl BK237 hb)
      have n2_ := Aside0.mk (bst1 HB GE237 hb)
      have z_BK244 := fun (h0_ : b 9 = true) (h1_ : b 12 = false) => (show w19.heap[gb244]? = some (.cells #[.int .i64 0, .int .i64 0] 34 (0, 0)) from by first | exact (blk_below (g := gb244) (o := .cells #[.int .i64 0, .int .i64 0] 34 (0, 0)) (by (with_reducible repeat (first | refine blk_drewN ?_ _ | refine blk_drew ?_ | refine blk_alloc ?_ _)); exact (Q_BK244 h0_ h1_)) hb))
      have z_BK245 := fun (h0_ : b 10 = true) (h1_ : b 13 = false) => (show w19.heap[gb245]? = some (.cells #[.int .i64 0, .int .i64 0] 34 (0, 0)) from by first | exact (blk_below (g := gb245) (o := .cells #[.int .i64 0, .int .i64 0] 34 (0, 0)) (by (with_reducible repeat (first | refine blk_drewN ?_ _ | refine blk_drew ?_ | refine blk_alloc ?_ _)); exact (Q_BK245 h0_ h1_)) hb))
      have z_BK246 := fun (h0_ : b 11 = true) (h1_ : b 14 = false) => (show w19.heap[gb246]? = some (.cells #[.int .i64 0, .int .i64 0] 34 (0, 0)) from by first | exact (blk_below (g := gb246) (o := .cells #[.int .i64 0, .int .i64 0] 34 (0, 0)) (by (with_reducible repeat (first | refine blk_drewN ?_ _ | refine blk_drew ?_ | refine blk_alloc ?_ _)); exact (Q_BK246 h0_ h1_)) hb))
      clear HO_3
      clear BK237
      clear HB
      have HO_3 := n0_
      have BK237 := n1_
      have HB := n2_
      clear n0_ n1_ n2_
      (try clear hb)
      (try clear hb2)
      (try clear hk)
      (try clear hi)
      refine hK.out _ _ ⟨gb244, gb245, gb246, m9_, m10_, m11_, (by rw [ha.out]; exact putSel_upk 2 hb_ rfl rfl rfl), (by (with_reducible repeat (first | apply Kd.R_alloc | apply Kd.R_drewN | apply Kd.R_drew)); exact HO_3.out), (bkp BK237), (bbw1 HB GE237), Q_NB245_244, Q_NB244_245, Q_NB246_244, Q_NB244_246, Q_NB246_245, Q_NB245_246, z_BK244, Q_GW244, Q_GE244, Q_NB237_244, Q_NB244_237, z_BK245, Q_GW245, Q_GE245, Q_NB237_245, Q_NB245_237, z_BK246, Q_GW246, Q_GE246, Q_NB237_246, Q_NB246_237, fun h0_ => absurd ((hoff 12 (by kernel_rfl)).symm.trans h0_) (by decide), fun h0_ => absurd ((hoff 13 (by kernel_rfl)).symm.trans h0_) (by decide), fun h0_ => absurd ((hoff 14 (by kernel_rfl)).symm.trans h0_) (by decide), Q_X9_, Q_X10_, Q_X11_⟩
     refine steps_cons ?_ ?_
     ·rintro b a w' ⟨gb244, gb245, gb246, m9_, m10_, m11_, ha, Q_HO_3, Q_BK237, Q_HB, Q_NB245_244, Q_NB244_245, Q_NB246_244, Q_NB244_246, Q_NB246_245, Q_NB245_246, Q_BK244, Q_GW244, Q_GE244, Q_NB237_244, Q_NB244_237, Q_BK245, Q_GW245, Q_GE245, Q_NB237_245, Q_NB245_237, Q_BK246, Q_GW246, Q_GE246, Q_NB237_246, Q_NB246_237, Q_BK244_e12, Q_BK245_e13, Q_BK246_e14, Q_X9_, Q_X10_, Q_X11_⟩ hb_ hon hoff
      refine ⟨_, rfl, fun K hK => ?_⟩
      have e5 : a.tmps[5]? = some (.pointer (some ⟨gb237, 0, none⟩)) := by rw [ha]; exact (putSel_off rfl).trans rfl
      replace ha := Aside0.mk ha
      have HO_3 := Aside0.mk Q_HO_3
      have BK237 := Aside0.mk Q_BK237
      have HB := Aside0.mk Q_HB
      have hc0_ : w'.cell? ⟨gb237, 0, none⟩ = some (.int .i64 (wrap64 ((wrap64 (Int.tdiv x10_1 27)) - 1))) := bcl BK237 0
      have hc1_ : w'.cell? ⟨gb237, 1, none⟩ = some (.int .i64 (wrap64 ((Int.tmod (wrap64 (Int.tdiv x10_1 9)) 3) - 1))) := bcl BK237 1
      have hc2_ : w'.cell? ⟨gb237, 2, none⟩ = some (.int .i64 (wrap64 ((Int.tmod (wrap64 (Int.tdiv x10_1 3)) 3) - 1))) := bcl BK237 2
      have hc3_ : w'.cell? ⟨gb237, 3, none⟩ = some (.int .i64 (wrap64 ((Int.tmod x10_1 3) - 1))) := bcl BK237 3
      refine value_ (w1 := w') (v := .agg #[.int .i64 (wrap64 ((wrap64 (Int.tdiv x10_1 27)) - 1)), .int .i64 (wrap64 ((Int.tmod (wrap64 (Int.tdiv x10_1 9)) 3) - 1)), .int .i64 (wrap64 ((Int.tmod (wrap64 (Int.tdiv x10_1 3)) 3) - 1)), .int .i64 (wrap64 ((Int.tmod x10_1 3) - 1))]) (by rfl) rfl ?_ ?_
      ·go_simp
       (try simp only [i64_w])
       try rfl
      refine hK.out _ _ ⟨gb244, gb245, gb246, m9_, m10_, m11_, (by rw [ha.out]; exact putSel_upk 3 hb_ rfl rfl rfl), Q_HO_3, Q_BK237, Q_HB, Q_NB245_244, Q_NB244_245, Q_NB246_244, Q_NB244_246, Q_NB246_245, Q_NB245_246, Q_BK244, Q_GW244, Q_GE244, Q_NB237_244, Q_NB244_237, Q_BK245, Q_GW245, Q_GE245, Q_NB237_245, Q_NB245_237, Q_BK246, Q_GW246, Q_GE246, Q_NB237_246, Q_NB246_237, fun h0_ => absurd ((hoff 12 (by kernel_rfl)).symm.trans h0_) (by decide), fun h0_ => absurd ((hoff 13 (by kernel_rfl)).symm.trans h0_) (by decide), fun h0_ => absurd ((hoff 14 (by kernel_rfl)).symm.trans h0_) (by decide), Q_X9_, Q_X10_, Q_X11_⟩
     refine steps_cons ?_ ?_
     ·rintro b a w' ⟨gb244, gb245, gb246, m9_, m10_, m11_, ha, Q_HO_3, Q_BK237, Q_HB, Q_NB245_244, Q_NB244_245, Q_NB246_244, Q_NB244_246, Q_NB246_245, Q_NB245_246, Q_BK244, Q_GW244, Q_GE244, Q_NB237_244, Q_NB244_237, Q_BK245, Q_GW245, Q_GE245, Q_NB237_245, Q_NB245_237, Q_BK246, Q_GW246, Q_GE246, Q_NB237_246, Q_NB246_237, Q_BK244_e12, Q_BK245_e13, Q_BK246_e14, Q_X9_, Q_X10_, Q_X11_⟩ hb_ hon hoff
      refine ⟨_, rfl, fun K hK => ?_⟩
      replace ha := Aside0.mk ha
      have HO_3 := Aside0.mk Q_HO_3
      have BK237 := Aside0.mk Q_BK237
      have HB := Aside0.mk Q_HB
      refine value_ (w1 := w') (v := .agg #[.int .i64 0, .int .i64 1]) (by rfl) rfl ?_ ?_
      ·go_simp
       (try simp only [i64_w])
       try rfl
      refine hK.out _ _ ⟨gb244, gb245, gb246, m9_, m10_, m11_, (by rw [ha.out]; exact putSel_upk 4 hb_ rfl rfl rfl), Q_HO_3, Q_BK237, Q_HB, Q_NB245_244, Q_NB244_245, Q_NB246_244, Q_NB244_246, Q_NB246_245, Q_NB245_246, Q_BK244, Q_GW244, Q_GE244, Q_NB237_244, Q_NB244_237, Q_BK245, Q_GW245, Q_GE245, Q_NB237_245, Q_NB245_237, Q_BK246, Q_GW246, Q_GE246, Q_NB237_246, Q_NB246_237, fun h0_ => absurd ((hoff 12 (by kernel_rfl)).symm.trans h0_) (by decide), fun h0_ => absurd ((hoff 13 (by kernel_rfl)).symm.trans h0_) (by decide), fun h0_ => absurd ((hoff 14 (by kernel_rfl)).symm.trans h0_) (by decide), Q_X9_, Q_X10_, Q_X11_⟩
     refine steps_cons ?_ ?_
     ·rintro b a w' ⟨gb244, gb245, gb246, m9_, m10_, m11_, ha, Q_HO_3, Q_BK237, Q_HB, Q_NB245_244, Q_NB244_245, Q_NB246_244, Q_NB244_246, Q_NB246_245, Q_NB245_246, Q_BK244, Q_GW244, Q_GE244, Q_NB237_244, Q_NB244_237, Q_BK245, Q_GW245, Q_GE245, Q_NB237_245, Q_NB245_237, Q_BK246, Q_GW246, Q_GE246, Q_NB237_246, Q_NB246_237, Q_BK244_e12, Q_BK245_e13, Q_BK246_e14, Q_X9_, Q_X10_, Q_X11_⟩ hb_ hon hoff
      refine ⟨_, rfl, fun K hK => ?_⟩
      have e31 : a.tmps[31]? = some (.agg #[.int .i64 (wrap64 ((wrap64 (Int.tdiv x10_1 27)) - 1)), .int .i64 (wrap64 ((Int.tmod (wrap64 (Int.tdiv x10_1 9)) 3) - 1)), .int .i64 (wrap64 ((Int.tmod (wrap64 (Int.tdiv x10_1 3)) 3) - 1)), .int .i64 (wrap64 ((Int.tmod x10_1 3) - 1))]) := by rw [ha]; exact putSel_on (e := (3, 31, .agg #[.int .i64 (wrap64 ((wrap64 (Int.tdiv x10_1 27)) - 1)), .int .i64 (wrap64 ((Int.tmod (wrap64 (Int.tdiv x10_1 9)) 3) - 1)), .int .i64 (wrap64 ((Int.tmod (wrap64 (Int.tdiv x10_1 3)) 3) - 1)), .int .i64 (wrap64 ((Int.tmod x10_1 3) - 1))])) 3 rfl rfl (hon 3 (by kernel_rfl)) rfl
      have e32 : a.tmps[32]? = some (.agg #[.int .i64 0, .int .i64 1]) := by rw [ha]; exact putSel_on (e := (4, 32, .agg #[.int .i64 0, .int .i64 1])) 4 rfl rfl (hon 4 (by kernel_rfl)) rfl
      replace ha := Aside0.mk ha
      have HO_3 := Aside0.mk Q_HO_3
      have BK237 := Aside0.mk Q_BK237
      have HB := Aside0.mk Q_HB
      refine goes_ Try.func124 (by kernel_rfl) rfl #[.agg #[.int .i64 (wrap64 ((wrap64 (Int.tdiv x10_1 27)) - 1)), .int .i64 (wrap64 ((Int.tmod (wrap64 (Int.tdiv x10_1 9)) 3) - 1)), .int .i64 (wrap64 ((Int.tmod (wrap64 (Int.tdiv x10_1 3)) 3) - 1)), .int .i64 (wrap64 ((Int.tmod x10_1 3) - 1))], .agg #[.int .i64 0, .int .i64 1]] (by rfl) rfl rfl (by first | (simp only [List.map_toArray, List.map_cons, List.map_nil, Act.eval, Array.getD_eq_getD_getElem?, Option.getD_some, e31, e32]; done) | (simp only [List.map_toArray, List.map_cons, List.map_nil, Act.eval, Array.getD_eq_getD_getElem?, Option.getD_some, e31, e32]; rfl)) ?_
      with_reducible refine (impl_Mat_apply.calls (wrap64 ((wrap64 (Int.tdiv x10_1 27)) - 1)) (wrap64 ((Int.tmod (wrap64 (Int.tdiv x10_1 9)) 3) - 1)) (wrap64 ((Int.tmod (wrap64 (Int.tdiv x10_1 3)) 3) - 1)) (wrap64 ((Int.tmod x10_1 3) - 1)) 0 1 t240 t241 _ A6.out).mono ?_
      rintro e w21 ⟨rfl, hb⟩
      refine ⟨_, rfl, ?_⟩
      have n0_ := Aside0.mk (Kd.R_below (by (with_reducible repeat (first | apply Kd.R_alloc | apply Kd.R_drewN | apply Kd.R_drew)); exact HO_3.out) hb)
      have n1_ := Aside0.mk (bbl BK237 hb)
      have n2_ := Aside0.mk (bst1 HB GE237 hb)
      have z_BK244 := fun (h0_ : b 9 = true) (h1_ : b 12 = false) => (show w21.heap[gb244]? = some (.cells #[.int .i64 0, .int .i64 0] 34 (0, 0)) from by first | exact (blk_below (g := gb244) (o := .cells #[.int .i64 0, .int .i64 0] 34 (0, 0)) (by (with_reducible repeat (first | refine blk_drewN ?_ _ | refine blk_drew ?_ | refine blk_alloc ?_ _)); exact (Q_BK244 h0_ h1_)) hb))
      have z_BK245 := fun (h0_ : b 10 = true) (h1_ : b 13 = false) => (show w21.heap[gb245]? = some (.cells #[.int .i64 0, .int .i64 0] 34 (0, 0)) from by first | exact (blk_below (g := gb245) (o := .cells #[.int .i64 0, .int .i64 0] 34 (0, 0)) (by (with_reducible repeat (first | refine blk_drewN ?_ _ | refine blk_drew ?_ | refine blk_alloc ?_ _)); exact (Q_BK245 h0_ h1_)) hb))
      have z_BK246 := fun (h0_ : b 11 = true) (h1_ : b 14 = false) => (show w21.heap[gb246]? = some (.cells #[.int .i64 0, .int .i64 0] 34 (0, 0)) from by first | exact (blk_below (g := gb246) (o := .cells #[.int .i64 0, .int .i64 0] 34 (0, 0)) (by (with_reducible repeat (first | refine blk_drewN ?_ _ | refine blk_drew ?_ | refine blk_alloc ?_ _)); exact (Q_BK246 h0_ h1_)) hb))
      clear HO_3
      clear BK237
      clear HB
      have HO_3 := n0_
      have BK237 := n1_
      have HB := n2_
      clear n0_ n1_ n2_
      (try clear hb)
      (try clear hb2)
      (try clear hk)
      (try clear hi)
      refine hK.out _ _ ⟨gb244, gb245, gb246, m9_, m10_, m11_, (by rw [ha.out]; exact putSel_upk 5 hb_ rfl rfl rfl), (by (with_reducible repeat (first | apply Kd.R_alloc | apply Kd.R_drewN | apply Kd.R_drew)); exact HO_3.out), (bkp BK237), (bbw1 HB GE237), Q_NB245_244, Q_NB244_245, Q_NB246_244, Q_NB244_246, Q_NB246_245, Q_NB245_246, z_BK244, Q_GW244, Q_GE244, Q_NB237_244, Q_NB244_237, z_BK245, Q_GW245, Q_GE245, Q_NB237_245, Q_NB245_237, z_BK246, Q_GW246, Q_GE246, Q_NB237_246, Q_NB246_237, fun h0_ => absurd ((hoff 12 (by kernel_rfl)).symm.trans h0_) (by decide), fun h0_ => absurd ((hoff 13 (by kernel_rfl)).symm.trans h0_) (by decide), fun h0_ => absurd ((hoff 14 (by kernel_rfl)).symm.trans h0_) (by decide), Q_X9_, Q_X10_, Q_X11_⟩
     refine steps_cons ?_ ?_
     ·rintro b a w' ⟨gb244, gb245, gb246, m9_, m10_, m11_, ha, Q_HO_3, Q_BK237, Q_HB, Q_NB245_244, Q_NB244_245, Q_NB246_244, Q_NB244_246, Q_NB246_245, Q_NB245_246, Q_BK244, Q_GW244, Q_GE244, Q_NB237_244, Q_NB244_237, Q_BK245, Q_GW245, Q_GE245, Q_NB237_245, Q_NB245_237, Q_BK246, Q_GW246, Q_GE246, Q_NB237_246, Q_NB246_237, Q_BK244_e12, Q_BK245_e13, Q_BK246_e14, Q_X9_, Q_X10_, Q_X11_⟩ hb_ hon hoff
      refine ⟨_, rfl, fun K hK => ?_⟩
      have e5 : a.tmps[5]? = some (.pointer (some ⟨gb237, 0, none⟩)) := by rw [ha]; exact (putSel_off rfl).trans rfl
      replace ha := Aside0.mk ha
      have HO_3 := Aside0.mk Q_HO_3
      have BK237 := Aside0.mk Q_BK237
      have HB := Aside0.mk Q_HB
      have hc0_ : w'.cell? ⟨gb237, 0, none⟩ = some (.int .i64 (wrap64 ((wrap64 (Int.tdiv x10_1 27)) - 1))) := bcl BK237 0
      have hc1_ : w'.cell? ⟨gb237, 1, none⟩ = some (.int .i64 (wrap64 ((Int.tmod (wrap64 (Int.tdiv x10_1 9)) 3) - 1))) := bcl BK237 1
      have hc2_ : w'.cell? ⟨gb237, 2, none⟩ = some (.int .i64 (wrap64 ((Int.tmod (wrap64 (Int.tdiv x10_1 3)) 3) - 1))) := bcl BK237 2
      have hc3_ : w'.cell? ⟨gb237, 3, none⟩ = some (.int .i64 (wrap64 ((Int.tmod x10_1 3) - 1))) := bcl BK237 3
      refine value_ (w1 := w') (v := .agg #[.int .i64 (wrap64 ((wrap64 (Int.tdiv x10_1 27)) - 1)), .int .i64 (wrap64 ((Int.tmod (wrap64 (Int.tdiv x10_1 9)) 3) - 1)), .int .i64 (wrap64 ((Int.tmod (wrap64 (Int.tdiv x10_1 3)) 3) - 1)), .int .i64 (wrap64 ((Int.tmod x10_1 3) - 1))]) (by rfl) rfl ?_ ?_
      ·go_simp
       (try simp only [i64_w])
       try rfl
      refine hK.out _ _ ⟨gb244, gb245, gb246, m9_, m10_, m11_, (by rw [ha.out]; exact putSel_upk 6 hb_ rfl rfl rfl), Q_HO_3, Q_BK237, Q_HB, Q_NB245_244, Q_NB244_245, Q_NB246_244, Q_NB244_246, Q_NB246_245, Q_NB245_246, Q_BK244, Q_GW244, Q_GE244, Q_NB237_244, Q_NB244_237, Q_BK245, Q_GW245, Q_GE245, Q_NB237_245, Q_NB245_237, Q_BK246, Q_GW246, Q_GE246, Q_NB237_246, Q_NB246_237, fun h0_ => absurd ((hoff 12 (by kernel_rfl)).symm.trans h0_) (by decide), fun h0_ => absurd ((hoff 13 (by kernel_rfl)).symm.trans h0_) (by decide), fun h0_ => absurd ((hoff 14 (by kernel_rfl)).symm.trans h0_) (by decide), Q_X9_, Q_X10_, Q_X11_⟩
     refine steps_cons ?_ ?_
     ·rintro b a w' ⟨gb244, gb245, gb246, m9_, m10_, m11_, ha, Q_HO_3, Q_BK237, Q_HB, Q_NB245_244, Q_NB244_245, Q_NB246_244, Q_NB244_246, Q_NB246_245, Q_NB245_246, Q_BK244, Q_GW244, Q_GE244, Q_NB237_244, Q_NB244_237, Q_BK245, Q_GW245, Q_GE245, Q_NB237_245, Q_NB245_237, Q_BK246, Q_GW246, Q_GE246, Q_NB237_246, Q_NB246_237, Q_BK244_e12, Q_BK245_e13, Q_BK246_e14, Q_X9_, Q_X10_, Q_X11_⟩ hb_ hon hoff
      refine ⟨_, rfl, fun K hK => ?_⟩
      replace ha := Aside0.mk ha
      have HO_3 := Aside0.mk Q_HO_3
      have BK237 := Aside0.mk Q_BK237
      have HB := Aside0.mk Q_HB
      refine value_ (w1 := w') (v := .agg #[.int .i64 1, .int .i64 1]) (by rfl) rfl ?_ ?_
      ·go_simp
       (try simp only [i64_w])
       try rfl
      refine hK.out _ _ ⟨gb244, gb245, gb246, m9_, m10_, m11_, (by rw [ha.out]; exact putSel_upk 7 hb_ rfl rfl rfl), Q_HO_3, Q_BK237, Q_HB, Q_NB245_244, Q_NB244_245, Q_NB246_244, Q_NB244_246, Q_NB246_245, Q_NB245_246, Q_BK244, Q_GW244, Q_GE244, Q_NB237_244, Q_NB244_237, Q_BK245, Q_GW245, Q_GE245, Q_NB237_245, Q_NB245_237, Q_BK246, Q_GW246, Q_GE246, Q_NB237_246, Q_NB246_237, fun h0_ => absurd ((hoff 12 (by kernel_rfl)).symm.trans h0_) (by decide), fun h0_ => absurd ((hoff 13 (by kernel_rfl)).symm.trans h0_) (by decide), fun h0_ => absurd ((hoff 14 (by kernel_rfl)).symm.trans h0_) (by decide), Q_X9_, Q_X10_, Q_X11_⟩
     refine steps_cons ?_ ?_
     ·rintro b a w' ⟨gb244, gb245, gb246, m9_, m10_, m11_, ha, Q_HO_3, Q_BK237, Q_HB, Q_NB245_244, Q_NB244_245, Q_NB246_244, Q_NB244_246, Q_NB246_245, Q_NB245_246, Q_BK244, Q_GW244, Q_GE244, Q_NB237_244, Q_NB244_237, Q_BK245, Q_GW245, Q_GE245, Q_NB237_245, Q_NB245_237, Q_BK246, Q_GW246, Q_GE246, Q_NB237_246, Q_NB246_237, Q_BK244_e12, Q_BK245_e13, Q_BK246_e14, Q_X9_, Q_X10_, Q_X11_⟩ hb_ hon hoff
      refine ⟨_, rfl, fun K hK => ?_⟩
      have e34 : a.tmps[34]? = some (.agg #[.int .i64 (wrap64 ((wrap64 (Int.tdiv x10_1 27)) - 1)), .int .i64 (wrap64 ((Int.tmod (wrap64 (Int.tdiv x10_1 9)) 3) - 1)), .int .i64 (wrap64 ((Int.tmod (wrap64 (Int.tdiv x10_1 3)) 3) - 1)), .int .i64 (wrap64 ((Int.tmod x10_1 3) - 1))]) := by rw [ha]; exact putSel_on (e := (6, 34, .agg #[.int .i64 (wrap64 ((wrap64 (Int.tdiv x10_1 27)) - 1)), .int .i64 (wrap64 ((Int.tmod (wrap64 (Int.tdiv x10_1 9)) 3) - 1)), .int .i64 (wrap64 ((Int.tmod (wrap64 (Int.tdiv x10_1 3)) 3) - 1)), .int .i64 (wrap64 ((Int.tmod x10_1 3) - 1))])) 6 rfl rfl (hon 6 (by kernel_rfl)) rfl
      have e35 : a.tmps[35]? = some (.agg #[.int .i64 1, .int .i64 1]) := by rw [ha]; exact putSel_on (e := (7, 35, .agg #[.int .i64 1, .int .i64 1])) 7 rfl rfl (hon 7 (by kernel_rfl)) rfl
      replace ha := Aside0.mk ha
      have HO_3 := Aside0.mk Q_HO_3
      have BK237 := Aside0.mk Q_BK237
      have HB := Aside0.mk Q_HB
      refine goes_ Try.func124 (by kernel_rfl) rfl #[.agg #[.int .i64 (wrap64 ((wrap64 (Int.tdiv x10_1 27)) - 1)), .int .i64 (wrap64 ((Int.tmod (wrap64 (Int.tdiv x10_1 9)) 3) - 1)), .int .i64 (wrap64 ((Int.tmod (wrap64 (Int.tdiv x10_1 3)) 3) - 1)), .int .i64 (wrap64 ((Int.tmod x10_1 3) - 1))], .agg #[.int .i64 1, .int .i64 1]] (by rfl) rfl rfl (by first | (simp only [List.map_toArray, List.map_cons, List.map_nil, Act.eval, Array.getD_eq_getD_getElem?, Option.getD_some, e34, e35]; done) | (simp only [List.map_toArray, List.map_cons, List.map_nil, Act.eval, Array.getD_eq_getD_getElem?, Option.getD_some, e34, e35]; rfl)) ?_
      with_reducible refine (impl_Mat_apply.calls (wrap64 ((wrap64 (Int.tdiv x10_1 27)) - 1)) (wrap64 ((Int.tmod (wrap64 (Int.tdiv x10_1 9)) 3) - 1)) (wrap64 ((Int.tmod (wrap64 (Int.tdiv x10_1 3)) 3) - 1)) (wrap64 ((Int.tmod x10_1 3) - 1)) 1 1 t242 t243 _ A7.out).mono ?_
      rintro e w22 ⟨rfl, hb⟩
      refine ⟨_, rfl, ?_⟩
      have n0_ := Aside0.mk (Kd.R_below (by (with_reducible repeat (first | apply Kd.R_alloc | apply Kd.R_drewN | apply Kd.R_drew)); exact HO_3.out) hb)
      have n1_ := Aside0.mk (bbl BK237 hb)
      have n2_ := Aside0.mk (bst1 HB GE237 hb)
      have z_BK244 := fun (h0_ : b 9 = true) (h1_ : b 12 = false) => (show w22.heap[gb244]? = some (.cells #[.int .i64 0, .int .i64 0] 34 (0, 0)) from by first | exact (blk_below (g := gb244) (o := .cells #[.int .i64 0, .int .i64 0] 34 (0, 0)) (by (with_reducible repeat (first | refine blk_drewN ?_ _ | refine blk_drew ?_ | refine blk_alloc ?_ _)); exact (Q_BK244 h0_ h1_)) hb))
      have z_BK245 := fun (h0_ : b 10 = true) (h1_ : b 13 = false) => (show w22.heap[gb245]? = some (.cells #[.int .i64 0, .int .i64 0] 34 (0, 0)) from by first | exact (blk_below (g := gb245) (o := .cells #[.int .i64 0, .int .i64 0] 34 (0, 0)) (by (with_reducible repeat (first | refine blk_drewN ?_ _ | refine blk_drew ?_ | refine blk_alloc ?_ _)); exact (Q_BK245 h0_ h1_)) hb))
      have z_BK246 := fun (h0_ : b 11 = true) (h1_ : b 14 = false) => (show w22.heap[gb246]? = some (.cells #[.int .i64 0, .int .i64 0] 34 (0, 0)) from by first | exact (blk_below (g := gb246) (o := .cells #[.int .i64 0, .int .i64 0] 34 (0, 0)) (by (with_reducible repeat (first | refine blk_drewN ?_ _ | refine blk_drew ?_ | refine blk_alloc ?_ _)); exact (Q_BK246 h0_ h1_)) hb))
      clear HO_3
      clear BK237
      clear HB
      have HO_3 := n0_
      have BK237 := n1_
      have HB := n2_
      clear n0_ n1_ n2_
      (try clear hb)
      (try clear hb2)
      (try clear hk)
      (try clear hi)
      refine hK.out _ _ ⟨gb244, gb245, gb246, m9_, m10_, m11_, (by rw [ha.out]; exact putSel_upk 8 hb_ rfl rfl rfl), (by (with_reducible repeat (first | apply Kd.R_alloc | apply Kd.R_drewN | apply Kd.R_drew)); exact HO_3.out), (bkp BK237), (bbw1 HB GE237), Q_NB245_244, Q_NB244_245, Q_NB246_244, Q_NB244_246, Q_NB246_245, Q_NB245_246, z_BK244, Q_GW244, Q_GE244, Q_NB237_244, Q_NB244_237, z_BK245, Q_GW245, Q_GE245, Q_NB237_245, Q_NB245_237, z_BK246, Q_GW246, Q_GE246, Q_NB237_246, Q_NB246_237, fun h0_ => absurd ((hoff 12 (by kernel_rfl)).symm.trans h0_) (by decide), fun h0_ => absurd ((hoff 13 (by kernel_rfl)).symm.trans h0_) (by decide), fun h0_ => absurd ((hoff 14 (by kernel_rfl)).symm.trans h0_) (by decide), Q_X9_, Q_X10_, Q_X11_⟩
     refine steps_cons ?_ ?_
     ·rintro b a w' ⟨gb244, gb245, gb246, m9_, m10_, m11_, ha, Q_HO_3, Q_BK237, Q_HB, Q_NB245_244, Q_NB244_245, Q_NB246_244, Q_NB244_246, Q_NB246_245, Q_NB245_246, Q_BK244, Q_GW244, Q_GE244, Q_NB237_244, Q_NB244_237, Q_BK245, Q_GW245, Q_GE245, Q_NB237_245, Q_NB245_237, Q_BK246, Q_GW246, Q_GE246, Q_NB237_246, Q_NB246_237, Q_BK244_e12, Q_BK245_e13, Q_BK246_e14, Q_X9_, Q_X10_, Q_X11_⟩ hb_ hon hoff
      refine ⟨_, rfl, fun K hK => ?_⟩
      replace ha := Aside0.mk ha
      have HO_3 := Aside0.mk Q_HO_3
      have BK237 := Aside0.mk Q_BK237
      have HB := Aside0.mk Q_HB
      refine box_step ?hg (N := 6) ?hd (cs := #[.int .i64 0, .int .i64 0]) (t := 34) ?hr ?_; (case hd => rfl); (case hg => rfl); (case hr => first | (go_simp; done) | (go_simp; rfl))
      intro gb244 hg w19 hbox hb
      have n0_ := Aside0.mk (Kd.R_below (by (with_reducible repeat (first | apply Kd.R_alloc | apply Kd.R_drewN | apply Kd.R_drew)); exact HO_3.out) hb)
      have n1_ := Aside0.mk (bbl BK237 hb)
      have n2_ := Aside0.mk (bst1 HB GE237 hb)
      have n3_ := Aside0.mk (hbox)
      have n4_ := ngw1 hg HB GE237
      have n5_ := ngw1 hg HB GE237
      have n6_ := nlt hg BK237
      have n7_ := nsy (nlt hg BK237)
      have z_NB245_244 := fun (h0_ : up b 9 9 = true) (h1_ : up b 9 10 = true) => (show gb245 ≠ gb244 from ((by rw [hg]; exact Nat.ne_of_lt (by cases hq_ : b 13 with | false => exact blk_lt (g := gb245) (Q_BK245 h1_ hq_) | true => exact blk_lt (g := gb245) (Q_BK245_e13 hq_)) : gb245 ≠ gb244)))
      have z_NB244_245 := fun (h0_ : up b 9 9 = true) (h1_ : up b 9 10 = true) => (show gb244 ≠ gb245 from ((by rw [hg]; exact Nat.ne_of_gt (by cases hq_ : b 13 with | false => exact blk_lt (g := gb245) (Q_BK245 h1_ hq_) | true => exact blk_lt (g := gb245) (Q_BK245_e13 hq_)) : gb244 ≠ gb245)))
      have z_NB246_244 := fun (h0_ : up b 9 9 = true) (h1_ : up b 9 11 = true) => (show gb246 ≠ gb244 from ((by rw [hg]; exact Nat.ne_of_lt (by cases hq_ : b 14 with | false => exact blk_lt (g := gb246) (Q_BK246 h1_ hq_) | true => exact blk_lt (g := gb246) (Q_BK246_e14 hq_)) : gb246 ≠ gb244)))
      have z_NB244_246 := fun (h0_ : up b 9 9 = true) (h1_ : up b 9 11 = true) => (show gb244 ≠ gb246 from ((by rw [hg]; exact Nat.ne_of_gt (by cases hq_ : b 14 with | false => exact blk_lt (g := gb246) (Q_BK246 h1_ hq_) | true => exact blk_lt (g := gb246) (Q_BK246_e14 hq_)) : gb244 ≠ gb246)))
      have z_BK245 := fun (h0_ : b 10 = true) (h1_ : b 13 = false) => (show w19.heap[gb245]? = some (.cells #[.int .i64 0, .int .i64 0] 34 (0, 0)) from by first | exact (blk_below (g := gb245) (o := .cells #[.int .i64 0, .int .i64 0] 34 (0, 0)) (by (with_reducible repeat (first | refine blk_drewN ?_ _ | refine blk_drew ?_ | refine blk_alloc ?_ _)); exact (Q_BK245 h0_ h1_)) hb))
      have z_BK246 := fun (h0_ : b 11 = true) (h1_ : b 14 = false) => (show w19.heap[gb246]? = some (.cells #[.int .i64 0, .int .i64 0] 34 (0, 0)) from by first | exact (blk_below (g := gb246) (o := .cells #[.int .i64 0, .int .i64 0] 34 (0, 0)) (by (with_reducible repeat (first | refine blk_drewN ?_ _ | refine blk_drew ?_ | refine blk_alloc ?_ _)); exact (Q_BK246 h0_ h1_)) hb))
      clear HO_3
      clear BK237
      clear HB
      have HO_3 := n0_
      have BK237 := n1_
      have HB := n2_
      have BK244 := n3_
      have GW244 := n4_
      have GE244 := n5_
      have NB237_244 := n6_
      have NB244_237 := n7_
      clear n0_ n1_ n2_ n3_ n4_ n5_ n6_ n7_
      clear hb hbox hg
      refine hK.out _ _ ⟨gb244, gb245, gb246, (.pointer (some ⟨gb244, 0, none⟩)), m10_, m11_, (by rw [ha.out]; exact putSel_upk 9 hb_ rfl rfl rfl), (by (with_reducible repeat (first | apply Kd.R_alloc | apply Kd.R_drewN | apply Kd.R_drew)); exact HO_3.out), (bkp BK237), (bbw2 HB GE237 GE244), @z_NB245_244, @z_NB244_245, @z_NB246_244, @z_NB244_246, Q_NB246_245, Q_NB245_246, fun _ _ => (bkp BK244), fun _ => GW244.out, fun _ => GE244.out, fun _ => NB237_244.out, fun _ => NB244_237.out, z_BK245, Q_GW245, Q_GE245, Q_NB237_245, Q_NB245_237, z_BK246, Q_GW246, Q_GE246, Q_NB237_246, Q_NB246_237, fun h0_ => absurd ((hoff 12 (by kernel_rfl)).symm.trans h0_) (by decide), fun h0_ => absurd ((hoff 13 (by kernel_rfl)).symm.trans h0_) (by decide), fun h0_ => absurd ((hoff 14 (by kernel_rfl)).symm.trans h0_) (by decide), fun _ => rfl, Q_X10_, Q_X11_⟩
     refine steps_cons ?_ ?_
     ·rintro b a w' ⟨gb244, gb245, gb246, m9_, m10_, m11_, ha, Q_HO_3, Q_BK237, Q_HB, Q_NB245_244, Q_NB244_245, Q_NB246_244, Q_NB244_246, Q_NB246_245, Q_NB245_246, Q_BK244, Q_GW244, Q_GE244, Q_NB237_244, Q_NB244_237, Q_BK245, Q_GW245, Q_GE245, Q_NB237_245, Q_NB245_237, Q_BK246, Q_GW246, Q_GE246, Q_NB237_246, Q_NB246_237, Q_BK244_e12, Q_BK245_e13, Q_BK246_e14, Q_X9_, Q_X10_, Q_X11_⟩ hb_ hon hoff
      refine ⟨_, rfl, fun K hK => ?_⟩
      replace ha := Aside0.mk ha
      have HO_3 := Aside0.mk Q_HO_3
      have BK237 := Aside0.mk Q_BK237
      have HB := Aside0.mk Q_HB
      refine box_step ?hg (N := 7) ?hd (cs := #[.int .i64 0, .int .i64 0]) (t := 34) ?hr ?_; (case hd => rfl); (case hg => rfl); (case hr => first | (go_simp; done) | (go_simp; rfl))
      intro gb245 hg w19 hbox hb
      have n0_ := Aside0.mk (Kd.R_below (by (with_reducible repeat (first | apply Kd.R_alloc | apply Kd.R_drewN | apply Kd.R_drew)); exact HO_3.out) hb)
      have n1_ := Aside0.mk (bbl BK237 hb)
      have n2_ := Aside0.mk (bst1 HB GE237 hb)
      have n3_ := Aside0.mk (hbox)
      have n4_ := ngw1 hg HB GE237
      have n5_ := ngw1 hg HB GE237
      have n6_ := nlt hg BK237
      have n7_ := nsy (nlt hg BK237)
      have z_NB245_244 := fun (h0_ : up b 10 9 = true) (h1_ : up b 10 10 = true) => (show gb245 ≠ gb244 from ((by rw [hg]; exact Nat.ne_of_gt (by cases hq_ : b 12 with | false => exact blk_lt (g := gb244) (Q_BK244 h0_ hq_) | true => exact blk_lt (g := gb244) (Q_BK244_e12 hq_)) : gb245 ≠ gb244)))
      have z_NB244_245 := fun (h0_ : up b 10 9 = true) (h1_ : up b 10 10 = true) => (show gb244 ≠ gb245 from ((by rw [hg]; exact Nat.ne_of_lt (by cases hq_ : b 12 with | false => exact blk_lt (g := gb244) (Q_BK244 h0_ hq_) | true => exact blk_lt (g := gb244) (Q_BK244_e12 hq_)) : gb244 ≠ gb245)))
      have z_NB246_245 := fun (h0_ : up b 10 10 = true) (h1_ : up b 10 11 = true) => (show gb246 ≠ gb245 from ((by rw [hg]; exact Nat.ne_of_lt (by cases hq_ : b 14 with | false => exact blk_lt (g := gb246) (Q_BK246 h1_ hq_) | true => exact blk_lt (g := gb246) (Q_BK246_e14 hq_)) : gb246 ≠ gb245)))
      have z_NB245_246 := fun (h0_ : up b 10 10 = true) (h1_ : up b 10 11 = true) => (show gb245 ≠ gb246 from ((by rw [hg]; exact Nat.ne_of_gt (by cases hq_ : b 14 with | false => exact blk_lt (g := gb246) (Q_BK246 h1_ hq_) | true => exact blk_lt (g := gb246) (Q_BK246_e14 hq_)) : gb245 ≠ gb246)))
      have z_BK244 := fun (h0_ : b 9 = true) (h1_ : b 12 = false) => (show w19.heap[gb244]? = some (.cells #[.int .i64 0, .int .i64 0] 34 (0, 0)) from by first | exact (blk_below (g := gb244) (o := .cells #[.int .i64 0, .int .i64 0] 34 (0, 0)) (by (with_reducible repeat (first | refine blk_drewN ?_ _ | refine blk_drew ?_ | refine blk_alloc ?_ _)); exact (Q_BK244 h0_ h1_)) hb))
      have z_BK246 := fun (h0_ : b 11 = true) (h1_ : b 14 = false) => (show w19.heap[gb246]? = some (.cells #[.int .i64 0, .int .i64 0] 34 (0, 0)) from by first | exact (blk_below (g := gb246) (o := .cells #[.int .i64 0, .int .i64 0] 34 (0, 0)) (by (with_reducible repeat (first | refine blk_drewN ?_ _ | refine blk_drew ?_ | refine blk_alloc ?_ _)); exact (Q_BK246 h0_ h1_)) hb))
      clear HO_3
      clear BK237
      clear HB
      have HO_3 := n0_
      have BK237 := n1_
      have HB := n2_
      have BK245 := n3_
      have GW245 := n4_
      have GE245 := n5_
      have NB237_245 := n6_
      have NB245_237 := n7_
      clear n0_ n1_ n2_ n3_ n4_ n5_ n6_ n7_
      clear hb hbox hg
      refine hK.out _ _ ⟨gb244, gb245, gb246, m9_, (.pointer (some ⟨gb245, 0, none⟩)), m11_, (by rw [ha.out]; exact putSel_upk 10 hb_ rfl rfl rfl), (by (with_reducible repeat (first | apply Kd.R_alloc | apply Kd.R_drewN | apply Kd.R_drew)); exact HO_3.out), (bkp BK237), (bbw2 HB GE237 GE245), @z_NB245_244, @z_NB244_245, Q_NB246_244, Q_NB244_246, @z_NB246_245, @z_NB245_246, z_BK244, Q_GW244, Q_GE244, Q_NB237_244, Q_NB244_237, fun _ _ => (bkp BK245), fun _ => GW245.out, fun _ => GE245.out, fun _ => NB237_245.out, fun _ => NB245_237.out, z_BK246, Q_GW246, Q_GE246, Q_NB237_246, Q_NB246_237, fun h0_ => absurd ((hoff 12 (by kernel_rfl)).symm.trans h0_) (by decide), fun h0_ => absurd ((hoff 13 (by kernel_rfl)).symm.trans h0_) (by decide), fun h0_ => absurd ((hoff 14 (by kernel_rfl)).symm.trans h0_) (by decide), Q_X9_, fun _ => rfl, Q_X11_⟩
     refine steps_cons ?_ ?_
     ·rintro b a w' ⟨gb244, gb245, gb246, m9_, m10_, m11_, ha, Q_HO_3, Q_BK237, Q_HB, Q_NB245_244, Q_NB244_245, Q_NB246_244, Q_NB244_246, Q_NB246_245, Q_NB245_246, Q_BK244, Q_GW244, Q_GE244, Q_NB237_244, Q_NB244_237, Q_BK245, Q_GW245, Q_GE245, Q_NB237_245, Q_NB245_237, Q_BK246, Q_GW246, Q_GE246, Q_NB237_246, Q_NB246_237, Q_BK244_e12, Q_BK245_e13, Q_BK246_e14, Q_X9_, Q_X10_, Q_X11_⟩ hb_ hon hoff
      refine ⟨_, rfl, fun K hK => ?_⟩
      replace ha := Aside0.mk ha
      have HO_3 := Aside0.mk Q_HO_3
      have BK237 := Aside0.mk Q_BK237
      have HB := Aside0.mk Q_HB
      refine box_step ?hg (N := 8) ?hd (cs := #[.int .i64 0, .int .i64 0]) (t := 34) ?hr ?_; (case hd => rfl); (case hg => rfl); (case hr => first | (go_simp; done) | (go_simp; rfl))
      intro gb246 hg w19 hbox hb
      have n0_ := Aside0.mk (Kd.R_below (by (with_reducible repeat (first | apply Kd.R_alloc | apply Kd.R_drewN | apply Kd.R_drew)); exact HO_3.out) hb)
      have n1_ := Aside0.mk (bbl BK237 hb)
      have n2_ := Aside0.mk (bst1 HB GE237 hb)
      have n3_ := Aside0.mk (hbox)
      have n4_ := ngw1 hg HB GE237
      have n5_ := ngw1 hg HB GE237
      have n6_ := nlt hg BK237
      have n7_ := nsy (nlt hg BK237)
      have z_NB246_244 := fun (h0_ : up b 11 9 = true) (h1_ : up b 11 11 = true) => (show gb246 ≠ gb244 from ((by rw [hg]; exact Nat.ne_of_gt (by cases hq_ : b 12 with | false => exact blk_lt (g := gb244) (Q_BK244 h0_ hq_) | true => exact blk_lt (g := gb244) (Q_BK244_e12 hq_)) : gb246 ≠ gb244)))
      have z_NB244_246 := fun (h0_ : up b 11 9 = true) (h1_ : up b 11 11 = true) => (show gb244 ≠ gb246 from ((by rw [hg]; exact Nat.ne_of_lt (by cases hq_ : b 12 with | false => exact blk_lt (g := gb244) (Q_BK244 h0_ hq_) | true => exact blk_lt (g := gb244) (Q_BK244_e12 hq_)) : gb244 ≠ gb246)))
      have z_NB246_245 := fun (h0_ : up b 11 10 = true) (h1_ : up b 11 11 = true) => (show gb246 ≠ gb245 from ((by rw [hg]; exact Nat.ne_of_gt (by cases hq_ : b 13 with | false => exact blk_lt (g := gb245) (Q_BK245 h0_ hq_) | true => exact blk_lt (g := gb245) (Q_BK245_e13 hq_)) : gb246 ≠ gb245)))
      have z_NB245_246 := fun (h0_ : up b 11 10 = true) (h1_ : up b 11 11 = true) => (show gb245 ≠ gb246 from ((by rw [hg]; exact Nat.ne_of_lt (by cases hq_ : b 13 with | false => exact blk_lt (g := gb245) (Q_BK245 h0_ hq_) | true => exact blk_lt (g := gb245) (Q_BK245_e13 hq_)) : gb245 ≠ gb246)))
      have z_BK244 := fun (h0_ : b 9 = true) (h1_ : b 12 = false) => (show w19.heap[gb244]? = some (.cells #[.int .i64 0, .int .i64 0] 34 (0, 0)) from by first | exact (blk_below (g := gb244) (o := .cells #[.int .i64 0, .int .i64 0] 34 (0, 0)) (by (with_reducible repeat (first | refine blk_drewN ?_ _ | refine blk_drew ?_ | refine blk_alloc ?_ _)); exact (Q_BK244 h0_ h1_)) hb))
      have z_BK245 := fun (h0_ : b 10 = true) (h1_ : b 13 = false) => (show w19.heap[gb245]? = some (.cells #[.int .i64 0, .int .i64 0] 34 (0, 0)) from by first | exact (blk_below (g := gb245) (o := .cells #[.int .i64 0, .int .i64 0] 34 (0, 0)) (by (with_reducible repeat (first | refine blk_drewN ?_ _ | refine blk_drew ?_ | refine blk_alloc ?_ _)); exact (Q_BK245 h0_ h1_)) hb))
      clear HO_3
      clear BK237
      clear HB
      have HO_3 := n0_
      have BK237 := n1_
      have HB := n2_
      have BK246 := n3_
      have GW246 := n4_
      have GE246 := n5_
      have NB237_246 := n6_
      have NB246_237 := n7_
      clear n0_ n1_ n2_ n3_ n4_ n5_ n6_ n7_
      clear hb hbox hg
      refine hK.out _ _ ⟨gb244, gb245, gb246, m9_, m10_, (.pointer (some ⟨gb246, 0, none⟩)), (by rw [ha.out]; exact putSel_upk 11 hb_ rfl rfl rfl), (by (with_reducible repeat (first | apply Kd.R_alloc | apply Kd.R_drewN | apply Kd.R_drew)); exact HO_3.out), (bkp BK237), (bbw2 HB GE237 GE246), Q_NB245_244, Q_NB244_245, @z_NB246_244, @z_NB244_246, @z_NB246_245, @z_NB245_246, z_BK244, Q_GW244, Q_GE244, Q_NB237_244, Q_NB244_237, z_BK245, Q_GW245, Q_GE245, Q_NB237_245, Q_NB245_237, fun _ _ => (bkp BK246), fun _ => GW246.out, fun _ => GE246.out, fun _ => NB237_246.out, fun _ => NB246_237.out, fun h0_ => absurd ((hoff 12 (by kernel_rfl)).symm.trans h0_) (by decide), fun h0_ => absurd ((hoff 13 (by kernel_rfl)).symm.trans h0_) (by decide), fun h0_ => absurd ((hoff 14 (by kernel_rfl)).symm.trans h0_) (by decide), Q_X9_, Q_X10_, fun _ => rfl⟩
     refine steps_cons ?_ ?_
     ·rintro b a w' ⟨gb244, gb245, gb246, m9_, m10_, m11_, ha, Q_HO_3, Q_BK237, Q_HB, Q_NB245_244, Q_NB244_245, Q_NB246_244, Q_NB244_246, Q_NB246_245, Q_NB245_246, Q_BK244, Q_GW244, Q_GE244, Q_NB237_244, Q_NB244_237, Q_BK245, Q_GW245, Q_GE245, Q_NB237_245, Q_NB245_237, Q_BK246, Q_GW246, Q_GE246, Q_NB237_246, Q_NB246_237, Q_BK244_e12, Q_BK245_e13, Q_BK246_e14, Q_X9_, Q_X10_, Q_X11_⟩ hb_ hon hoff
      refine ⟨_, rfl, fun K hK => ?_⟩
      have e6 : a.tmps[6]? = some (m9_) := by rw [ha]; exact putSel_on (e := (9, 6, m9_)) 9 rfl rfl (hon 9 (by kernel_rfl)) rfl
      rw [Q_X9_ (hon 9 (by kernel_rfl))] at e6
      have e30 : a.tmps[30]? = some (.agg #[.int .i64 t238, .int .i64 t239]) := by rw [ha]; exact putSel_on (e := (2, 30, .agg #[.int .i64 t238, .int .i64 t239])) 2 rfl rfl (hon 2 (by kernel_rfl)) rfl
      replace ha := Aside0.mk ha
      have HO_3 := Aside0.mk Q_HO_3
      have BK237 := Aside0.mk Q_BK237
      have HB := Aside0.mk Q_HB
      have NB245_244 := Aside0.mk (Q_NB245_244 (hon 9 (by kernel_rfl)) (hon 10 (by kernel_rfl)))
      have NB244_245 := Aside0.mk (Q_NB244_245 (hon 9 (by kernel_rfl)) (hon 10 (by kernel_rfl)))
      have NB246_244 := Aside0.mk (Q_NB246_244 (hon 9 (by kernel_rfl)) (hon 11 (by kernel_rfl)))
      have NB244_246 := Aside0.mk (Q_NB244_246 (hon 9 (by kernel_rfl)) (hon 11 (by kernel_rfl)))
      have NB246_245 := Aside0.mk (Q_NB246_245 (hon 10 (by kernel_rfl)) (hon 11 (by kernel_rfl)))
      have NB245_246 := Aside0.mk (Q_NB245_246 (hon 10 (by kernel_rfl)) (hon 11 (by kernel_rfl)))
      have BK244 := Aside0.mk (Q_BK244 (hon 9 (by kernel_rfl)) hb_)
      have GW244 := Aside0.mk (Q_GW244 (hon 9 (by kernel_rfl)))
      have GE244 := Aside0.mk (Q_GE244 (hon 9 (by kernel_rfl)))
      have NB237_244 := Aside0.mk (Q_NB237_244 (hon 9 (by kernel_rfl)))
      have NB244_237 := Aside0.mk (Q_NB244_237 (hon 9 (by kernel_rfl)))
      have BK245 := Aside0.mk (Q_BK245 (hon 10 (by kernel_rfl)) (hoff 13 (by kernel_rfl)))
      have GW245 := Aside0.mk (Q_GW245 (hon 10 (by kernel_rfl)))
      have GE245 := Aside0.mk (Q_GE245 (hon 10 (by kernel_rfl)))
      have NB237_245 := Aside0.mk (Q_NB237_245 (hon 10 (by kernel_rfl)))
      have NB245_237 := Aside0.mk (Q_NB245_237 (hon 10 (by kernel_rfl)))
      have BK246 := Aside0.mk (Q_BK246 (hon 11 (by kernel_rfl)) (hoff 14 (by kernel_rfl)))
      have GW246 := Aside0.mk (Q_GW246 (hon 11 (by kernel_rfl)))
      have GE246 := Aside0.mk (Q_GE246 (hon 11 (by kernel_rfl)))
      have NB237_246 := Aside0.mk (Q_NB237_246 (hon 11 (by kernel_rfl)))
      have NB246_237 := Aside0.mk (Q_NB246_237 (hon 11 (by kernel_rfl)))
      have hs26 : w'.cell? ⟨gb244, 0, none⟩ = some (.int .i64 0) := bcl BK244 0
      have hfs26 := blk_frozen BK244.out 0
      have hns26_0 := NB237_244.out
      have hns26_2 := NB245_244.out
      have hns26_3 := NB246_244.out
      have hms26_0 := NB244_237.out
      have hms26_2 := NB244_245.out
      have hms26_3 := NB244_246.out
      have hs27 : w'.cell? ⟨gb244, 1, none⟩ = some (.int .i64 0) := bcl BK244 1
      have hfs27 := blk_frozen BK244.out 1
      have hns27_0 := NB237_244.out
      have hns27_2 := NB245_244.out
      have hns27_3 := NB246_244.out
      have hms27_0 := NB244_237.out
      have hms27_2 := NB244_245.out
      have hms27_3 := NB244_246.out
      refine skip_ (w1 := ?_) (by rfl) rfl ?_ ?_
      rotate_left
      ·go_simp
       rfl
      refine hK.out _ _ ⟨gb244, gb245, gb246, m9_, m10_, m11_, (by rw [ha.out]; exact putSel_none (v := undef) rfl), (by (with_reducible repeat (first | apply Kd.R_alloc | apply Kd.R_drewN | apply Kd.R_drew)); exact Kd.R_mono (Kd.R_far (p := ⟨gb244, 1, none⟩) (Kd.R_far (p := ⟨gb244, 0, none⟩) (Kd.R_types HO_3.out BK244.out (by decide)) (fun _ hk => hk.2) (.int .i64 t238)) (fun _ hk => hk.2) (.int .i64 t239)) (fun _ hk => hk.1)), (by (with_reducible repeat (first | refine blk_drewN ?_ _ | refine blk_drew ?_ | refine blk_alloc ?_ _)); refine blk_far ?_ NB237_244.out _; (with_reducible repeat (first | refine blk_drewN ?_ _ | refine blk_drew ?_ | refine blk_alloc ?_ _)); refine blk_far ?_ NB237_244.out _; (with_reducible repeat (first | refine blk_drewN ?_ _ | refine blk_drew ?_ | refine blk_alloc ?_ _)); exact BK237.out), (bbw4 HB GE237 GE244 GE245 GE246), fun _ _ => NB245_244.out, fun _ _ => NB244_245.out, fun _ _ => NB246_244.out, fun _ _ => NB244_246.out, fun _ _ => NB246_245.out, fun _ _ => NB245_246.out, fun _ h1_ => absurd ((up_self b 12).symm.trans h1_) (by decide), fun _ => GW244.out, fun _ => GE244.out, fun _ => NB237_244.out, fun _ => NB244_237.out, fun _ _ => (by (with_reducible repeat (first | refine blk_drewN ?_ _ | refine blk_drew ?_ | refine blk_alloc ?_ _)); refine blk_far ?_ NB245_244.out _; (with_reducible repeat (first | refine blk_drewN ?_ _ | refine blk_drew ?_ | refine blk_alloc ?_ _)); refine blk_far ?_ NB245_244.out _; (with_reducible repeat (first | refine blk_drewN ?_ _ | refine blk_drew ?_ | refine blk_alloc ?_ _)); exact BK245.out), fun _ => GW245.out, fun _ => GE245.out, fun _ => NB237_245.out, fun _ => NB245_237.out, fun _ _ => (by (with_reducible repeat (first | refine blk_drewN ?_ _ | refine blk_drew ?_ | refine blk_alloc ?_ _)); refine blk_far ?_ NB246_244.out _; (with_reducible repeat (first | refine blk_drewN ?_ _ | refine blk_drew ?_ | refine blk_alloc ?_ _)); refine blk_far ?_ NB246_244.out _; (with_reducible repeat (first | refine blk_drewN ?_ _ | refine blk_drew ?_ | refine blk_alloc ?_ _)); exact BK246.out), fun _ => GW246.out, fun _ => GE246.out, fun _ => NB237_246.out, fun _ => NB246_237.out, fun _ => (by (with_reducible repeat (first | refine blk_drewN ?_ _ | refine blk_drew ?_ | refine blk_alloc ?_ _)); refine blk_put (cs := #[.int .i64 t238, .int .i64 0]) ?_ 1 _ rfl; (with_reducible repeat (first | refine blk_drewN ?_ _ | refine blk_drew ?_ | refine blk_alloc ?_ _)); refine blk_put (cs := #[.int .i64 0, .int .i64 0]) ?_ 0 _ rfl; (with_reducible repeat (first | refine blk_drewN ?_ _ | refine blk_drew ?_ | refine blk_alloc ?_ _)); exact BK244.out), fun h0_ => absurd ((hoff 13 (by kernel_rfl)).symm.trans h0_) (by decide), fun h0_ => absurd ((hoff 14 (by kernel_rfl)).symm.trans h0_) (by decide), Q_X9_, Q_X10_, Q_X11_⟩
     refine steps_cons ?_ ?_
     ·rintro b a w' ⟨gb244, gb245, gb246, m9_, m10_, m11_, ha, Q_HO_3, Q_BK237, Q_HB, Q_NB245_244, Q_NB244_245, Q_NB246_244, Q_NB244_246, Q_NB246_245, Q_NB245_246, Q_BK244, Q_GW244, Q_GE244, Q_NB237_244, Q_NB244_237, Q_BK245, Q_GW245, Q_GE245, Q_NB237_245, Q_NB245_237, Q_BK246, Q_GW246, Q_GE246, Q_NB237_246, Q_NB246_237, Q_BK244_e12, Q_BK245_e13, Q_BK246_e14, Q_X9_, Q_X10_, Q_X11_⟩ hb_ hon hoff
      refine ⟨_, rfl, fun K hK => ?_⟩
      have e7 : a.tmps[7]? = some (m10_) := by rw [ha]; exact putSel_on (e := (10, 7, m10_)) 10 rfl rfl (hon 10 (by kernel_rfl)) rfl
      rw [Q_X10_ (hon 10 (by kernel_rfl))] at e7
      have e33 : a.tmps[33]? = some (.agg #[.int .i64 t240, .int .i64 t241]) := by rw [ha]; exact putSel_on (e := (5, 33, .agg #[.int .i64 t240, .int .i64 t241])) 5 rfl rfl (hon 5 (by kernel_rfl)) rfl
      replace ha := Aside0.mk ha
      have HO_3 := Aside0.mk Q_HO_3
      have BK237 := Aside0.mk Q_BK237
      have HB := Aside0.mk Q_HB
      have NB245_244 := Aside0.mk (Q_NB245_244 (hon 9 (by kernel_rfl)) (hon 10 (by kernel_rfl)))
      have NB244_245 := Aside0.mk (Q_NB244_245 (hon 9 (by kernel_rfl)) (hon 10 (by kernel_rfl)))
      have NB246_244 := Aside0.mk (Q_NB246_244 (hon 9 (by kernel_rfl)) (hon 11 (by kernel_rfl)))
      have NB244_246 := Aside0.mk (Q_NB244_246 (hon 9 (by kernel_rfl)) (hon 11 (by kernel_rfl)))
      have NB246_245 := Aside0.mk (Q_NB246_245 (hon 10 (by kernel_rfl)) (hon 11 (by kernel_rfl)))
      have NB245_246 := Aside0.mk (Q_NB245_246 (hon 10 (by kernel_rfl)) (hon 11 (by kernel_rfl)))
      have GW244 := Aside0.mk (Q_GW244 (hon 9 (by kernel_rfl)))
      have GE244 := Aside0.mk (Q_GE244 (hon 9 (by kernel_rfl)))
      have NB237_244 := Aside0.mk (Q_NB237_244 (hon 9 (by kernel_rfl)))
      have NB244_237 := Aside0.mk (Q_NB244_237 (hon 9 (by kernel_rfl)))
      have BK245 := Aside0.mk (Q_BK245 (hon 10 (by kernel_rfl)) hb_)
      have GW245 := Aside0.mk (Q_GW245 (hon 10 (by kernel_rfl)))
      have GE245 := Aside0.mk (Q_GE245 (hon 10 (by kernel_rfl)))
      have NB237_245 := Aside0.mk (Q_NB237_245 (hon 10 (by kernel_rfl)))
      have NB245_237 := Aside0.mk (Q_NB245_237 (hon 10 (by kernel_rfl)))
      have BK246 := Aside0.mk (Q_BK246 (hon 11 (by kernel_rfl)) (hoff 14 (by kernel_rfl)))
      have GW246 := Aside0.mk (Q_GW246 (hon 11 (by kernel_rfl)))
      have GE246 := Aside0.mk (Q_GE246 (hon 11 (by kernel_rfl)))
      have NB237_246 := Aside0.mk (Q_NB237_246 (hon 11 (by kernel_rfl)))
      have NB246_237 := Aside0.mk (Q_NB246_237 (hon 11 (by kernel_rfl)))
      have BK244 := Aside0.mk (Q_BK244_e12 (hon 12 (by kernel_rfl)))
      have hs28 : w'.cell? ⟨gb245, 0, none⟩ = some (.int .i64 0) := bcl BK245 0
      have hfs28 := blk_frozen BK245.out 0
      have hns28_0 := NB237_245.out
      have hns28_1 := NB244_245.out
      have hns28_3 := NB246_245.out
      have hms28_0 := NB245_237.out
      have hms28_1 := NB245_244.out
      have hms28_3 := NB245_246.out
      have hs29 : w'.cell? ⟨gb245, 1, none⟩ = some (.int .i64 0) := bcl BK245 1
      have hfs29 := blk_frozen BK245.out 1
      have hns29_0 := NB237_245.out
      have hns29_1 := NB244_245.out
      have hns29_3 := NB246_245.out
      have hms29_0 := NB245_237.out
      have hms29_1 := NB245_244.out
      have hms29_3 := NB245_246.out
      refine skip_ (w1 := ?_) (by rfl) rfl ?_ ?_
      rotate_left
      ·go_simp
       rfl
      refine hK.out _ _ ⟨gb244, gb245, gb246, m9_, m10_, m11_, (by rw [ha.out]; exact putSel_none (v := undef) rfl), (by (with_reducible repeat (first | apply Kd.R_alloc | apply Kd.R_drewN | apply Kd.R_drew)); exact Kd.R_mono (Kd.R_far (p := ⟨gb245, 1, none⟩) (Kd.R_far (p := ⟨gb245, 0, none⟩) (Kd.R_types HO_3.out BK245.out (by decide)) (fun _ hk => hk.2) (.int .i64 t240)) (fun _ hk => hk.2) (.int .i64 t241)) (fun _ hk => hk.1)), (by (with_reducible repeat (first | refine blk_drewN ?_ _ | refine blk_drew ?_ | refine blk_alloc ?_ _)); refine blk_far ?_ NB237_245.out _; (with_reducible repeat (first | refine blk_drewN ?_ _ | refine blk_drew ?_ | refine blk_alloc ?_ _)); refine blk_far ?_ NB237_245.out _; (with_reducible repeat (first | refine blk_drewN ?_ _ | refine blk_drew ?_ | refine blk_alloc ?_ _)); exact BK237.out), (bbw4 HB GE237 GE244 GE245 GE246), fun _ _ => NB245_244.out, fun _ _ => NB244_245.out, fun _ _ => NB246_244.out, fun _ _ => NB244_246.out, fun _ _ => NB246_245.out, fun _ _ => NB245_246.out, fun _ h1_ => absurd ((hon 12 (by kernel_rfl)).symm.trans h1_) (by decide), fun _ => GW244.out, fun _ => GE244.out, fun _ => NB237_244.out, fun _ => NB244_237.out, fun _ h1_ => absurd ((up_self b 13).symm.trans h1_) (by decide), fun _ => GW245.out, fun _ => GE245.out, fun _ => NB237_245.out, fun _ => NB245_237.out, fun _ _ => (by (with_reducible repeat (first | refine blk_drewN ?_ _ | refine blk_drew ?_ | refine blk_alloc ?_ _)); refine blk_far ?_ NB246_245.out _; (with_reducible repeat (first | refine blk_drewN ?_ _ | refine blk_drew ?_ | refine blk_alloc ?_ _)); refine blk_far ?_ NB246_245.out _; (with_reducible repeat (first | refine blk_drewN ?_ _ | refine blk_drew ?_ | refine blk_alloc ?_ _)); exact BK246.out), fun _ => GW246.out, fun _ => GE246.out, fun _ => NB237_246.out, fun _ => NB246_237.out, fun _ => (by (with_reducible repeat (first | refine blk_drewN ?_ _ | refine blk_drew ?_ | refine blk_alloc ?_ _)); refine blk_far ?_ NB244_245.out _; (with_reducible repeat (first | refine blk_drewN ?_ _ | refine blk_drew ?_ | refine blk_alloc ?_ _)); refine blk_far ?_ NB244_245.out _; (with_reducible repeat (first | refine blk_drewN ?_ _ | refine blk_drew ?_ | refine blk_alloc ?_ _)); exact BK244.out), fun _ => (by (with_reducible repeat (first | refine blk_drewN ?_ _ | refine blk_drew ?_ | refine blk_alloc ?_ _)); refine blk_put (cs := #[.int .i64 t240, .int .i64 0]) ?_ 1 _ rfl; (with_reducible repeat (first | refine blk_drewN ?_ _ | refine blk_drew ?_ | refine blk_alloc ?_ _)); refine blk_put (cs := #[.int .i64 0, .int .i64 0]) ?_ 0 _ rfl; (with_reducible repeat (first | refine blk_drewN ?_ _ | refine blk_drew ?_ | refine blk_alloc ?_ _)); exact BK245.out), fun h0_ => absurd ((hoff 14 (by kernel_rfl)).symm.trans h0_) (by decide), Q_X9_, Q_X10_, Q_X11_⟩
     refine steps_cons ?_ ?_
     ·rintro b a w' ⟨gb244, gb245, gb246, m9_, m10_, m11_, ha, Q_HO_3, Q_BK237, Q_HB, Q_NB245_244, Q_NB244_245, Q_NB246_244, Q_NB244_246, Q_NB246_245, Q_NB245_246, Q_BK244, Q_GW244, Q_GE244, Q_NB237_244, Q_NB244_237, Q_BK245, Q_GW245, Q_GE245, Q_NB237_245, Q_NB245_237, Q_BK246, Q_GW246, Q_GE246, Q_NB237_246, Q_NB246_237, Q_BK244_e12, Q_BK245_e13, Q_BK246_e14, Q_X9_, Q_X10_, Q_X11_⟩ hb_ hon hoff
      refine ⟨_, rfl, fun K hK => ?_⟩
      have e8 : a.tmps[8]? = some (m11_) := by rw [ha]; exact putSel_on (e := (11, 8, m11_)) 11 rfl rfl (hon 11 (by kernel_rfl)) rfl
      rw [Q_X11_ (hon 11 (by kernel_rfl))] at e8
      have e36 : a.tmps[36]? = some (.agg #[.int .i64 t242, .int .i64 t243]) := by rw [ha]; exact putSel_on (e := (8, 36, .agg #[.int .i64 t242, .int .i64 t243])) 8 rfl rfl (hon 8 (by kernel_rfl)) rfl
      replace ha := Aside0.mk ha
      have HO_3 := Aside0.mk Q_HO_3
      have BK237 := Aside0.mk Q_BK237
      have HB := Aside0.mk Q_HB
      have NB245_244 := Aside0.mk (Q_NB245_244 (hon 9 (by kernel_rfl)) (hon 10 (by kernel_rfl)))
      have NB244_245 := Aside0.mk (Q_NB244_245 (hon 9 (by kernel_rfl)) (hon 10 (by kernel_rfl)))
      have NB246_244 := Aside0.mk (Q_NB246_244 (hon 9 (by kernel_rfl)) (hon 11 (by kernel_rfl)))
      have NB244_246 := Aside0.mk (Q_NB244_246 (hon 9 (by kernel_rfl)) (hon 11 (by kernel_rfl)))
      have NB246_245 := Aside0.mk (Q_NB246_245 (hon 10 (by kernel_rfl)) (hon 11 (by kernel_rfl)))
      have NB245_246 := Aside0.mk (Q_NB245_246 (hon 10 (by kernel_rfl)) (hon 11 (by kernel_rfl)))
      have GW244 := Aside0.mk (Q_GW244 (hon 9 (by kernel_rfl)))
      have GE244 := Aside0.mk (Q_GE244 (hon 9 (by kernel_rfl)))
      have NB237_244 := Aside0.mk (Q_NB237_244 (hon 9 (by kernel_rfl)))
      have NB244_237 := Aside0.mk (Q_NB244_237 (hon 9 (by kernel_rfl)))
      have GW245 := Aside0.mk (Q_GW245 (hon 10 (by kernel_rfl)))
      have GE245 := Aside0.mk (Q_GE245 (hon 10 (by kernel_rfl)))
      have NB237_245 := Aside0.mk (Q_NB237_245 (hon 10 (by kernel_rfl)))
      have NB245_237 := Aside0.mk (Q_NB245_237 (hon 10 (by kernel_rfl)))
      have BK246 := Aside0.mk (Q_BK246 (hon 11 (by kernel_rfl)) hb_)
      have GW246 := Aside0.mk (Q_GW246 (hon 11 (by kernel_rfl)))
      have GE246 := Aside0.mk (Q_GE246 (hon 11 (by kernel_rfl)))
      have NB237_246 := Aside0.mk (Q_NB237_246 (hon 11 (by kernel_rfl)))
      have NB246_237 := Aside0.mk (Q_NB246_237 (hon 11 (by kernel_rfl)))
      have BK244 := Aside0.mk (Q_BK244_e12 (hon 12 (by kernel_rfl)))
      have BK245 := Aside0.mk (Q_BK245_e13 (hon 13 (by kernel_rfl)))
      have hs30 : w'.cell? ⟨gb246, 0, none⟩ = some (.int .i64 0) := bcl BK246 0
      have hfs30 := blk_frozen BK246.out 0
      have hns30_0 := NB237_246.out
      have hns30_1 := NB244_246.out
      have hns30_2 := NB245_246.out
      have hms30_0 := NB246_237.out
      have hms30_1 := NB246_244.out
      have hms30_2 := NB246_245.out
      have hs31 : w'.cell? ⟨gb246, 1, none⟩ = some (.int .i64 0) := bcl BK246 1
      have hfs31 := blk_frozen BK246.out 1
      have hns31_0 := NB237_246.out
      have hns31_1 := NB244_246.out
      have hns31_2 := NB245_246.out
      have hms31_0 := NB246_237.out
      have hms31_1 := NB246_244.out
      have hms31_2 := NB246_245.out
      refine skip_ (w1 := ?_) (by rfl) rfl ?_ ?_
      rotate_left
      ·go_simp
       rfl
      refine hK.out _ _ ⟨gb244, gb245, gb246, m9_, m10_, m11_, (by rw [ha.out]; exact putSel_none (v := undef) rfl), (by (with_reducible repeat (first | apply Kd.R_alloc | apply Kd.R_drewN | apply Kd.R_drew)); exact Kd.R_mono (Kd.R_far (p := ⟨gb246, 1, none⟩) (Kd.R_far (p := ⟨gb246, 0, none⟩) (Kd.R_types HO_3.out BK246.out (by decide)) (fun _ hk => hk.2) (.int .i64 t242)) (fun _ hk => hk.2) (.int .i64 t243)) (fun _ hk => hk.1)), (by (with_reducible repeat (first | refine blk_drewN ?_ _ | refine blk_drew ?_ | refine blk_alloc ?_ _)); refine blk_far ?_ NB237_246.out _; (with_reducible repeat (first | refine blk_drewN ?_ _ | refine blk_drew ?_ | refine blk_alloc ?_ _)); refine blk_far ?_ NB237_246.out _; (with_reducible repeat (first | refine blk_drewN ?_ _ | refine blk_drew ?_ | refine blk_alloc ?_ _)); exact BK237.out), (bbw4 HB GE237 GE244 GE245 GE246), fun _ _ => NB245_244.out, fun _ _ => NB244_245.out, fun _ _ => NB246_244.out, fun _ _ => NB244_246.out, fun _ _ => NB246_245.out, fun _ _ => NB245_246.out, fun _ h1_ => absurd ((hon 12 (by kernel_rfl)).symm.trans h1_) (by decide), fun _ => GW244.out, fun _ => GE244.out, fun _ => NB237_244.out, fun _ => NB244_237.out, fun _ h1_ => absurd ((hon 13 (by kernel_rfl)).symm.trans h1_) (by decide), fun _ => GW245.out, fun _ => GE245.out, fun _ => NB237_245.out, fun _ => NB245_237.out, fun _ h1_ => absurd ((up_self b 14).symm.trans h1_) (by decide), fun _ => GW246.out, fun _ => GE246.out, fun _ => NB237_246.out, fun _ => NB246_237.out, fun _ => (by (with_reducible repeat (first | refine blk_drewN ?_ _ | refine blk_drew ?_ | refine blk_alloc ?_ _)); refine blk_far ?_ NB244_246.out _; (with_reducible repeat (first | refine blk_drewN ?_ _ | refine blk_drew ?_ | refine blk_alloc ?_ _)); refine blk_far ?_ NB244_246.out _; (with_reducible repeat (first | refine blk_drewN ?_ _ | refine blk_drew ?_ | refine blk_alloc ?_ _)); exact BK244.out), fun _ => (by (with_reducible repeat (first | refine blk_drewN ?_ _ | refine blk_drew ?_ | refine blk_alloc ?_ _)); refine blk_far ?_ NB245_246.out _; (with_reducible repeat (first | refine blk_drewN ?_ _ | refine blk_drew ?_ | refine blk_alloc ?_ _)); refine blk_far ?_ NB245_246.out _; (with_reducible repeat (first | refine blk_drewN ?_ _ | refine blk_drew ?_ | refine blk_alloc ?_ _)); exact BK245.out), fun _ => (by (with_reducible repeat (first | refine blk_drewN ?_ _ | refine blk_drew ?_ | refine blk_alloc ?_ _)); refine blk_put (cs := #[.int .i64 t242, .int .i64 0]) ?_ 1 _ rfl; (with_reducible repeat (first | refine blk_drewN ?_ _ | refine blk_drew ?_ | refine blk_alloc ?_ _)); refine blk_put (cs := #[.int .i64 0, .int .i64 0]) ?_ 0 _ rfl; (with_reducible repeat (first | refine blk_drewN ?_ _ | refine blk_drew ?_ | refine blk_alloc ?_ _)); exact BK246.out), Q_X9_, Q_X10_, Q_X11_⟩
     exact steps_nil
    rintro b a w31 hall ⟨gb244, gb245, gb246, m9_, m10_, m11_, ha, Q_HO_3, Q_BK237, Q_HB, Q_NB245_244, Q_NB244_245, Q_NB246_244, Q_NB244_246, Q_NB246_245, Q_NB245_246, Q_BK244, Q_GW244, Q_GE244, Q_NB237_244, Q_NB244_237, Q_BK245, Q_GW245, Q_GE245, Q_NB237_245, Q_NB245_237, Q_BK246, Q_GW246, Q_GE246, Q_NB237_246, Q_NB246_237, Q_BK244_e12, Q_BK245_e13, Q_BK246_e14, Q_X9_, Q_X10_, Q_X11_⟩
    clear BK237 HB HO_3
    have hb0_ := hall 0 (by kernel_rfl)
    have hb1_ := hall 1 (by kernel_rfl)
    have hb2_ := hall 2 (by kernel_rfl)
    have hb3_ := hall 3 (by kernel_rfl)
    have hb4_ := hall 4 (by kernel_rfl)
    have hb5_ := hall 5 (by kernel_rfl)
    have hb6_ := hall 6 (by kernel_rfl)
    have hb7_ := hall 7 (by kernel_rfl)
    have hb8_ := hall 8 (by kernel_rfl)
    have hb9_ := hall 9 (by kernel_rfl)
    have hb10_ := hall 10 (by kernel_rfl)
    have hb11_ := hall 11 (by kernel_rfl)
    have hb12_ := hall 12 (by kernel_rfl)
    have hb13_ := hall 13 (by kernel_rfl)
    have hb14_ := hall 14 (by kernel_rfl)
    subst ha
    obtain rfl := Q_X9_ hb9_
    obtain rfl := Q_X10_ hb10_
    obtain rfl := Q_X11_ hb11_
    simp only [putSel, hb0_, hb1_, hb2_, hb3_, hb4_, hb5_, hb6_, hb7_, hb8_, hb9_, hb10_, hb11_, hb12_, hb13_, hb14_, if_true, Act.put, sA, sB, sC]
    have HO_3 := Aside0.mk Q_HO_3
    clear Q_HO_3
    have BK237 := Aside0.mk Q_BK237
    clear Q_BK237
    have HB := Aside0.mk Q_HB
    clear Q_HB
    have NB245_244 := Aside0.mk (Q_NB245_244 hb9_ hb10_)
    clear Q_NB245_244
    have NB244_245 := Aside0.mk (Q_NB244_245 hb9_ hb10_)
    clear Q_NB244_245
    have NB246_244 := Aside0.mk (Q_NB246_244 hb9_ hb11_)
    clear Q_NB246_244
    have NB244_246 := Aside0.mk (Q_NB244_246 hb9_ hb11_)
    clear Q_NB244_246
    have NB246_245 := Aside0.mk (Q_NB246_245 hb10_ hb11_)
    clear Q_NB246_245
    have NB245_246 := Aside0.mk (Q_NB245_246 hb10_ hb11_)
    clear Q_NB245_246
    clear Q_BK244
    have GW244 := Aside0.mk (Q_GW244 hb9_)
    clear Q_GW244
    have GE244 := Aside0.mk (Q_GE244 hb9_)
    clear Q_GE244
    have NB237_244 := Aside0.mk (Q_NB237_244 hb9_)
    clear Q_NB237_244
    have NB244_237 := Aside0.mk (Q_NB244_237 hb9_)
    clear Q_NB244_237
    clear Q_BK245
    have GW245 := Aside0.mk (Q_GW245 hb10_)
    clear Q_GW245
    have GE245 := Aside0.mk (Q_GE245 hb10_)
    clear Q_GE245
    have NB237_245 := Aside0.mk (Q_NB237_245 hb10_)
    clear Q_NB237_245
    have NB245_237 := Aside0.mk (Q_NB245_237 hb10_)
    clear Q_NB245_237
    clear Q_BK246
    have GW246 := Aside0.mk (Q_GW246 hb11_)
    clear Q_GW246
    have GE246 := Aside0.mk (Q_GE246 hb11_)
    clear Q_GE246
    have NB237_246 := Aside0.mk (Q_NB237_246 hb11_)
    clear Q_NB237_246
    have NB246_237 := Aside0.mk (Q_NB246_237 hb11_)
    clear Q_NB246_237
    have BK244 := Aside0.mk (Q_BK244_e12 hb12_)
    clear Q_BK244_e12
    have BK245 := Aside0.mk (Q_BK245_e13 hb13_)
    clear Q_BK245_e13
    have BK246 := Aside0.mk (Q_BK246_e14 hb14_)
    clear Q_BK246_e14
    clear hall hb0_ hb1_ hb2_ hb3_ hb4_ hb5_ hb6_ hb7_ hb8_ hb9_ hb10_ hb11_ hb12_ hb13_ hb14_
    have hnb32 := NB244_237.out
    have hnc32 := NB237_244.out
    have hnb33 := NB244_245.out
    have hnc33 := NB245_244.out
    have hnb34 := NB244_246.out
    have hnc34 := NB246_244.out
    have hcz35_0 : w31.cell? ⟨gb244, 0, none⟩ = some (.int .i64 t238) := bcl BK244 0
    have hcz35_1 : w31.cell? ⟨gb244, 1, none⟩ = some (.int .i64 t239) := bcl BK244 1
    have hfz35_0 := blk_frozen BK244.out 0
    have hfz35_1 := blk_frozen BK244.out 1
    have H := Hq_.out
    clear Hq_
    replace H := Option.bind_eq_some_iff.mp H
    obtain ⟨t247, A80, H⟩ := H
    replace H : (if t247 = 1 then ((impl_norm.f a0 t240 t241).bind fun t248 => (if t248 = 1 then ((impl_norm.f a0 t242 t243).bind fun t249 => (if t249 = (wrap64 (2 + a0)) then (if x3_1.length < 4398046511104 then (impl_pointMats.l0 k1 a0 (x3_1 ++ [(⟨wrap64 ((wrap64 (Int.tdiv x10_1 27)) - 1), wrap64 ((Int.tmod (wrap64 (Int.tdiv x10_1 9)) 3) - 1), wrap64 ((Int.tmod (wrap64 (Int.tdiv x10_1 3)) 3) - 1), wrap64 ((Int.tmod x10_1 3) - 1)⟩ : S33)]) (wrap64 (x10_1 + 1))) else (none)) else (impl_pointMats.l0 k1 a0 x3_1 (wrap64 (x10_1 + 1))))) else (impl_pointMats.l0 k1 a0 x3_1 (wrap64 (x10_1 + 1))))) else (impl_pointMats.l0 k1 a0 x3_1 (wrap64 (x10_1 + 1)))) = some r := H
    have A8 := Aside0.mk A80
    clear A80
    by_cases c9 : t247 = 1
    ·rw [if_pos c9] at H
     have c9b0 : (t247 == 1) = true := beq_iff_eq.mpr c9
     have c9b1 : (t247 != 1) = false := bne_eq_false_iff_eq.mpr c9
     clear c9
     replace H := Option.bind_eq_some_iff.mp H
     obtain ⟨t248, A100, H⟩ := H
     replace H : (if t248 = 1 then ((impl_norm.f a0 t242 t243).bind fun t249 => (if t249 = (wrap64 (2 + a0)) then (if x3_1.length < 4398046511104 then (impl_pointMats.l0 k1 a0 (x3_1 ++ [(⟨wrap64 ((wrap64 (Int.tdiv x10_1 27)) - 1), wrap64 ((Int.tmod (wrap64 (Int.tdiv x10_1 9)) 3) - 1), wrap64 ((Int.tmod (wrap64 (Int.tdiv x10_1 3)) 3) - 1), wrap64 ((Int.tmod x10_1 3) - 1)⟩ : S33)]) (wrap64 (x10_1 + 1))) else (none)) else (impl_pointMats.l0 k1 a0 x3_1 (wrap64 (x10_1 + 1))))) else (impl_pointMats.l0 k1 a0 x3_1 (wrap64 (x10_1 + 1)))) = some r := H
     have A10 := Aside0.mk A100
     clear A100
     by_cases c11 : t248 = 1
     ·rw [if_pos c11] at H
      have c11b0 : (t248 == 1) = true := beq_iff_eq.mpr c11
      have c11b1 : (t248 != 1) = false := bne_eq_false_iff_eq.mpr c11
      clear c11
      replace H := Option.bind_eq_some_iff.mp H
      obtain ⟨t249, A120, H⟩ := H
      replace H : (if t249 = (wrap64 (2 + a0)) then (if x3_1.length < 4398046511104 then (impl_pointMats.l0 k1 a0 (x3_1 ++ [(⟨wrap64 ((wrap64 (Int.tdiv x10_1 27)) - 1), wrap64 ((Int.tmod (wrap64 (Int.tdiv x10_1 9)) 3) - 1), wrap64 ((Int.tmod (wrap64 (Int.tdiv x10_1 3)) 3) - 1), wrap64 ((Int.tmod x10_1 3) - 1)⟩ : S33)]) (wrap64 (x10_1 + 1))) else (none)) else (impl_pointMats.l0 k1 a0 x3_1 (wrap64 (x10_1 + 1)))) = some r := H
      have A12 := Aside0.mk A120
      clear A120
      by_cases c13 : t249 = (wrap64 (2 + a0))
      ·rw [if_pos c13] at H
       have c13b0 : (t249 == (wrap64 (2 + a0))) = true := beq_iff_eq.mpr c13
       have c13b1 : (t249 != (wrap64 (2 + a0))) = false := bne_eq_false_iff_eq.mpr c13
       clear c13
       by_cases c14 : x3_1.length < 4398046511104
       ·rw [if_pos c14] at H
        have LMc14 := Aside0.mk c14
        clear c14
        obtain ⟨y250, hy250⟩ : ∃ y_ : List (S33), y_ = (x3_1 ++ [(⟨wrap64 ((wrap64 (Int.tdiv x10_1 27)) - 1), wrap64 ((Int.tmod (wrap64 (Int.tdiv x10_1 9)) 3) - 1), wrap64 ((Int.tmod (wrap64 (Int.tdiv x10_1 3)) 3) - 1), wrap64 ((Int.tmod x10_1 3) - 1)⟩ : S33)]) := ⟨_, rfl⟩
        replace H : (impl_pointMats.l0 k1 a0 y250 (wrap64 (x10_1 + 1))) = some r := by first | (rw [hy250]; with_reducible exact H) | (have H2_ := (Option.bind_some _ _).symm.trans H; rw [hy250]; with_reducible exact H2_) | (have H2_ := (Option.bind_some _ _).symm.trans H; with_reducible exact H2_) | with_reducible exact H | (rw [hy250]; exact H) | exact H
        have Ny250 := Aside0.mk hy250
        clear hy250
        have H' := Aside0.mk H
        clear H
        try go_wp2_with (first | ((with_reducible refine gate_callee (f := 140) rfl ?_); refine goesL_ (some 39) rfl rfl Try.func140 (by kernel_rfl) rfl #[.int .i64 a0, .agg #[.int .i64 t238, .int .i64 t239]] rfl (by (try simp only [List.map_toArray, List.map_cons, List.map_nil]); first | done | rfl | (simp only [List.length_drop, List.length_take]; rfl)) ?_; (with_reducible refine (impl_norm.calls a0 t238 t239 t247 _ A8.out).mono ?_); rintro e w36 ⟨rfl, hb⟩; refine ⟨_, rfl, ?_⟩; have n0_ := Aside0.mk (Kd.R_below (by (with_reducible repeat (first | apply Kd.R_alloc | apply Kd.R_drewN | apply Kd.R_drew)); exact HO_3.out) hb); have n1_ := Aside0.mk (bbl BK237 hb); have n2_ := Aside0.mk (bbl BK244 hb); have n3_ := Aside0.mk (bbl BK245 hb); have n4_ := Aside0.mk (bbl BK246 hb); have n5_ := Aside0.mk (bst4 HB GE237 GE244 GE245 GE246 hb); clear HO_3; clear BK237; clear BK244; clear BK245; clear BK246; clear HB; have HO_3 := n0_; have BK237 := n1_; have BK244 := n2_; have BK245 := n3_; have BK246 := n4_; have HB := n5_; clear n0_ n1_ n2_ n3_ n4_ n5_; (try clear hb); (try clear hb2); (try clear hk); (try clear hi); have hnb37 := NB245_237.out; have hnc37 := NB237_245.out; have hnb38 := NB245_246.out; have hnc38 := NB246_245.out; have hcz39_0 : w36.cell? ⟨gb245, 0, none⟩ = some (.int .i64 t240) := bcl BK245 0; have hcz39_1 : w36.cell? ⟨gb245, 1, none⟩ = some (.int .i64 t241) := bcl BK245 1; have hfz39_0 := blk_frozen BK245.out 0; have hfz39_1 := blk_frozen BK245.out 1) | (go_at_call 140; (with_reducible refine (impl_norm.calls a0 t240 t241 t248 _ A10.out).mono ?_); rintro e w40 ⟨rfl, hb⟩; have n0_ := Aside0.mk (Kd.R_below (by (with_reducible repeat (first | apply Kd.R_alloc | apply Kd.R_drewN | apply Kd.R_drew)); exact HO_3.out) hb); have n1_ := Aside0.mk (bbl BK237 hb); have n2_ := Aside0.mk (bbl BK244 hb); have n3_ := Aside0.mk (bbl BK245 hb); have n4_ := Aside0.mk (bbl BK246 hb); have n5_ := Aside0.mk (bst4 HB GE237 GE244 GE245 GE246 hb); clear HO_3; clear BK237; clear BK244; clear BK245; clear BK246; clear HB; have HO_3 := n0_; have BK237 := n1_; have BK244 := n2_; have BK245 := n3_; have BK246 := n4_; have HB := n5_; clear n0_ n1_ n2_ n3_ n4_ n5_; (try clear hb); (try clear hb2); (try clear hk); (try clear hi); have hnb41 := NB246_237.out; have hnc41 := NB237_246.out; have hcz42_0 : w40.cell? ⟨gb246, 0, none⟩ = some (.int .i64 t242) := bcl BK246 0; have hcz42_1 : w40.cell? ⟨gb246, 1, none⟩ = some (.int .i64 t243) := bcl BK246 1; have hfz42_0 := blk_frozen BK246.out 0; have hfz42_1 := blk_frozen BK246.out 1) | (go_at_call 140; (with_reducible refine (impl_norm.calls a0 t242 t243 t249 _ A12.out).mono ?_); rintro e w43 ⟨rfl, hb⟩; have n0_ := Aside0.mk (Kd.R_below (by (with_reducible repeat (first | apply Kd.R_alloc | apply Kd.R_drewN | apply Kd.R_drew)); exact HO_3.out) hb); have n1_ := Aside0.mk (bbl BK237 hb); have n2_ := Aside0.mk (bbl BK244 hb); have n3_ := Aside0.mk (bbl BK245 hb); have n4_ := Aside0.mk (bbl BK246 hb); have n5_ := Aside0.mk (bst4 HB GE237 GE244 GE245 GE246 hb); clear HO_3; clear BK237; clear BK244; clear BK245; clear BK246; clear HB; have HO_3 := n0_; have BK237 := n1_; have BK244 := n2_; have BK245 := n3_; have BK246 := n4_; have HB := n5_; clear n0_ n1_ n2_ n3_ n4_ n5_; (try clear hb); (try clear hb2); (try clear hk); (try clear hi); have hcz44_0 : w43.cell? ⟨gb237, 0, none⟩ = some (.int .i64 (wrap64 ((wrap64 (Int.tdiv x10_1 27)) - 1))) := bcl BK237 0; have hcz44_1 : w43.cell? ⟨gb237, 1, none⟩ = some (.int .i64 (wrap64 ((Int.tmod (wrap64 (Int.tdiv x10_1 9)) 3) - 1))) := bcl BK237 1; have hcz44_2 : w43.cell? ⟨gb237, 2, none⟩ = some (.int .i64 (wrap64 ((Int.tmod (wrap64 (Int.tdiv x10_1 3)) 3) - 1))) := bcl BK237 2; have hcz44_3 : w43.cell? ⟨gb237, 3, none⟩ = some (.int .i64 (wrap64 ((Int.tmod x10_1 3) - 1))) := bcl BK237 3; have hfz44_0 := blk_frozen BK237.out 0; have hfz44_1 := blk_frozen BK237.out 1; have hfz44_2 := blk_frozen BK237.out 2; have hfz44_3 := blk_frozen BK237.out 3) | ((with_reducible refine gate_builtin (b := .append) (xs := #[.tmp 55, .tmp 57]) rfl ?_); at_builtin; refine Kd.R_append k33 (w0 := w) w.heap.size rfl (.tmp 55) (.tmp 57) 99 33 (.agg #[(.int .i64 0), (.int .i64 0), (.int .i64 0), (.int .i64 0)]) 32 rfl Try.underlying99 info33 rfl (by decide) (by omega) u3 x3_1 (⟨wrap64 ((wrap64 (Int.tdiv x10_1 27)) - 1), wrap64 ((Int.tmod (wrap64 (Int.tdiv x10_1 9)) 3) - 1), wrap64 ((Int.tmod (wrap64 (Int.tdiv x10_1 3)) 3) - 1), wrap64 ((Int.tmod x10_1 3) - 1)⟩ : S33) [.int .i64 (wrap64 ((wrap64 (Int.tdiv x10_1 27)) - 1)), .int .i64 (wrap64 ((Int.tmod (wrap64 (Int.tdiv x10_1 9)) 3) - 1)), .int .i64 (wrap64 ((Int.tmod (wrap64 (Int.tdiv x10_1 3)) 3) - 1)), .int .i64 (wrap64 ((Int.tmod x10_1 3) - 1))] (fun k_ => k_ ≠ gb237) (fun _ => False) rfl rfl ?aP (fun _ hk => hk.elim) ?aF ?aO ?aB ?aS ?aL ?_; (case aP => exact k33_mkM _ _ _ (⟨wrap64 ((wrap64 (Int.tdiv x10_1 27)) - 1), wrap64 ((Int.tmod (wrap64 (Int.tdiv x10_1 9)) 3) - 1), wrap64 ((Int.tmod (wrap64 (Int.tdiv x10_1 3)) 3) - 1), wrap64 ((Int.tmod x10_1 3) - 1)⟩ : S33)); (case aB => exact (bbw4 HB GE237 GE244 GE245 GE246)); (case aF => exact (fun k_ hk => Kd.freshB (g := gb237) (o := .cells #[.int .i64 (wrap64 ((wrap64 (Int.tdiv x10_1 27)) - 1)), .int .i64 (wrap64 ((Int.tmod (wrap64 (Int.tdiv x10_1 9)) 3) - 1)), .int .i64 (wrap64 ((Int.tmod (wrap64 (Int.tdiv x10_1 3)) 3) - 1)), .int .i64 (wrap64 ((Int.tmod x10_1 3) - 1))] 33 (0, 0)) (bkp BK237) k_ hk)); (case aO => exact (by (with_reducible repeat (first | apply Kd.R_alloc | apply Kd.R_drewN | apply Kd.R_drew)); exact HO_3.out)); (case aS => exact (bsz4 HB GE237 GE244 GE245 GE246)); (case aL => have := LMc14.out; omega); intro v251 w45 ho hb hg hat; rw [← Ny250.out] at ho; have n0_ := Aside0.mk (blk_grown (g := gb237) (o := .cells #[.int .i64 (wrap64 ((wrap64 (Int.tdiv x10_1 27)) - 1)), .int .i64 (wrap64 ((Int.tmod (wrap64 (Int.tdiv x10_1 9)) 3) - 1)), .int .i64 (wrap64 ((Int.tmod (wrap64 (Int.tdiv x10_1 3)) 3) - 1)), .int .i64 (wrap64 ((Int.tmod x10_1 3) - 1))] 33 (0, 0)) (bkp BK237) hg (Kd.R_away HO_3.out (fun _ hk => hk))); have n1_ := Aside0.mk (blk_grown (g := gb244) (o := .cells #[.int .i64 t238, .int .i64 t239] 34 (0, 0)) (bkp BK244) hg (Kd.R_ne HO_3.out BK244.out (by decide))); have n2_ := Aside0.mk (blk_grown (g := gb245) (o := .cells #[.int .i64 t240, .int .i64 t241] 34 (0, 0)) (bkp BK245) hg (Kd.R_ne HO_3.out BK245.out (by decide))); have n3_ := Aside0.mk (blk_grown (g := gb246) (o := .cells #[.int .i64 t242, .int .i64 t243] 34 (0, 0)) (bkp BK246) hg (Kd.R_ne HO_3.out BK246.out (by decide))); have n4_ := Aside0.mk (hb); have n5_ := Aside0.mk (ho); clear BK237; clear BK244; clear BK245; clear BK246; clear HB; clear HO_3; have BK237 := n0_; have BK244 := n1_; have BK245 := n2_; have BK246 := n3_; have HB := n4_; have HO252 := n5_; clear n0_ n1_ n2_ n3_ n4_ n5_; clear ho hb hg hat))
        go_roundg k1
        case measure => have := HK1.out; omega
        case rel => exact ⟨(y250), (wrap64 (x10_1 + 1)), (by first | rfl | (simp; done) | (simp [*]; done)), H', ⟨by have := HK1.out; omega⟩, ⟨by (with_reducible repeat (first | apply Kd.R_alloc | apply Kd.R_drewN | apply Kd.R_drew)); exact Kd.R_mono HO252.out (fun _ hk => trivial)⟩, ⟨bbw4 HB GE237 GE244 GE245 GE246⟩⟩
       ·rw [if_neg c14] at H
        exact absurd H (by simp)
      ·rw [if_neg c13] at H
       have c13b0 : (t249 == (wrap64 (2 + a0))) = false := beq_eq_false_iff_ne.mpr c13
       have c13b1 : (t249 != (wrap64 (2 + a0))) = true := bne_iff_ne.mpr c13
       have H' := Aside0.mk H
       clear H
       try go_wp2_with (first | ((with_reducible refine gate_callee (f := 140) rfl ?_); refine goesL_ (some 39) rfl rfl Try.func140 (by kernel_rfl) rfl #[.int .i64 a0, .agg #[.int .i64 t238, .int .i64 t239]] rfl (by (try simp only [List.map_toArray, List.map_cons, List.map_nil]); first | done | rfl | (simp only [List.length_drop, List.length_take]; rfl)) ?_; (with_reducible refine (impl_norm.calls a0 t238 t239 t247 _ A8.out).mono ?_); rintro e w67 ⟨rfl, hb⟩; refine ⟨_, rfl, ?_⟩; have n0_ := Aside0.mk (Kd.R_below (by (with_reducible repeat (first | apply Kd.R_alloc | apply Kd.R_drewN | apply Kd.R_drew)); exact HO_3.out) hb); have n1_ := Aside0.mk (bbl BK237 hb); have n2_ := Aside0.mk (bbl BK244 hb); have n3_ := Aside0.mk (bbl BK245 hb); have n4_ := Aside0.mk (bbl BK246 hb); have n5_ := Aside0.mk (bst4 HB GE237 GE244 GE245 GE246 hb); clear HO_3; clear BK237; clear BK244; clear BK245; clear BK246; clear HB; have HO_3 := n0_; have BK237 := n1_; have BK244 := n2_; have BK245 := n3_; have BK246 := n4_; have HB := n5_; clear n0_ n1_ n2_ n3_ n4_ n5_; (try clear hb); (try clear hb2); (try clear hk); (try clear hi); have hnb68 := NB245_237.out; have hnc68 := NB237_245.out; have hnb69 := NB245_246.out; have hnc69 := NB246_245.out; have hcz70_0 : w67.cell? ⟨gb245, 0, none⟩ = some (.int .i64 t240) := bcl BK245 0; have hcz70_1 : w67.cell? ⟨gb245, 1, none⟩ = some (.int .i64 t241) := bcl BK245 1; have hfz70_0 := blk_frozen BK245.out 0; have hfz70_1 := blk_frozen BK245.out 1) | (go_at_call 140; (with_reducible refine (impl_norm.calls a0 t240 t241 t248 _ A10.out).mono ?_); rintro e w71 ⟨rfl, hb⟩; have n0_ := Aside0.mk (Kd.R_below (by (with_reducible repeat (first | apply Kd.R_alloc | apply Kd.R_drewN | apply Kd.R_drew)); exact HO_3.out) hb); have n1_ := Aside0.mk (bbl BK237 hb); have n2_ := Aside0.mk (bbl BK244 hb); have n3_ := Aside0.mk (bbl BK245 hb); have n4_ := Aside0.mk (bbl BK246 hb); have n5_ := Aside0.mk (bst4 HB GE237 GE244 GE245 GE246 hb); clear HO_3; clear BK237; clear BK244; clear BK245; clear BK246; clear HB; have HO_3 := n0_; have BK237 := n1_; have BK244 := n2_; have BK245 := n3_; have BK246 := n4_; have HB := n5_; clear n0_ n1_ n2_ n3_ n4_ n5_; (try clear hb); (try clear hb2); (try clear hk); (try clear hi); have hnb72 := NB246_237.out; have hnc72 := NB237_246.out; have hcz73_0 : w71.cell? ⟨gb246, 0, none⟩ = some (.int .i64 t242) := bcl BK246 0; have hcz73_1 : w71.cell? ⟨gb246, 1, none⟩ = some (.int .i64 t243) := bcl BK246 1; have hfz73_0 := blk_frozen BK246.out 0; have hfz73_1 := blk_frozen BK246.out 1) | (go_at_call 140; (with_reducible refine (impl_norm.calls a0 t242 t243 t249 _ A12.out).mono ?_); rintro e w74 ⟨rfl, hb⟩; have n0_ := Aside0.mk (Kd.R_below (by (with_reducible repeat (first | apply Kd.R_alloc | apply Kd.R_drewN | apply Kd.R_drew)); exact HO_3.out) hb); have n1_ := Aside0.mk (bbl BK237 hb); have n2_ := Aside0.mk (bbl BK244 hb); have n3_ := Aside0.mk (bbl BK245 hb); have n4_ := Aside0.mk (bbl BK246 hb); have n5_ := Aside0.mk (bst4 HB GE237 GE244 GE245 GE246 hb); clear HO_3; clear BK237; clear BK244; clear BK245; clear BK246; clear HB; have HO_3 := n0_; have BK237 := n1_; have BK244 := n2_; have BK245 := n3_; have BK246 := n4_; have HB := n5_; clear n0_ n1_ n2_ n3_ n4_ n5_; (try clear hb); (try clear hb2); (try clear hk); (try clear hi)))
       go_roundg k1
       case measure => have := HK1.out; omega
       case rel => exact ⟨(x3_1), (wrap64 (x10_1 + 1)), (by first | rfl | (simp; done) | (simp [*]; done)), H', ⟨by have := HK1.out; omega⟩, ⟨by (with_reducible repeat (first | apply Kd.R_alloc | apply Kd.R_drewN | apply Kd.R_drew)); exact Kd.R_mono HO_3.out (fun _ hk => trivial)⟩, ⟨bbw4 HB GE237 GE244 GE245 GE246⟩⟩
     ·rw [if_neg c11] at H
      have c11b0 : (t248 == 1) = false := beq_eq_false_iff_ne.mpr c11
      have c11b1 : (t248 != 1) = true := bne_iff_ne.mpr c11
      have H' := Aside0.mk H
      clear H
      try go_wp2_with (first | ((with_reducible refine gate_callee (f := 140) rfl ?_); refine goesL_ (some 39) rfl rfl Try.func140 (by kernel_rfl) rfl #[.int .i64 a0, .agg #[.int .i64 t238, .int .i64 t239]] rfl (by (try simp only [List.map_toArray, List.map_cons, List.map_nil]); first | done | rfl | (simp only [List.length_drop, List.length_take]; rfl)) ?_; (with_reducible refine (impl_norm.calls a0 t238 t239 t247 _ A8.out).mono ?_); rintro e w96 ⟨rfl, hb⟩; refine ⟨_, rfl, ?_⟩; have n0_ := Aside0.mk (Kd.R_below (by (with_reducible repeat (first | apply Kd.R_alloc | apply Kd.R_drewN | apply Kd.R_drew)); exact HO_3.out) hb); have n1_ := Aside0.mk (bbl BK237 hb); have n2_ := Aside0.mk (bbl BK244 hb); have n3_ := Aside0.mk (bbl BK245 hb); have n4_ := Aside0.mk (bbl BK246 hb); have n5_ := Aside0.mk (bst4 HB GE237 GE244 GE245 GE246 hb); clear HO_3; clear BK237; clear BK244; clear BK245; clear BK246; clear HB; have HO_3 := n0_; have BK237 := n1_; have BK244 := n2_; have BK245 := n3_; have BK246 := n4_; have HB := n5_; clear n0_ n1_ n2_ n3_ n4_ n5_; (try clear hb); (try clear hb2); (try clear hk); (try clear hi); have hnb97 := NB245_237.out; have hnc97 := NB237_245.out; have hnb98 := NB245_246.out; have hnc98 := NB246_245.out; have hcz99_0 : w96.cell? ⟨gb245, 0, none⟩ = some (.int .i64 t240) := bcl BK245 0; have hcz99_1 : w96.cell? ⟨gb245, 1, none⟩ = some (.int .i64 t241) := bcl BK245 1; have hfz99_0 := blk_frozen BK245.out 0; have hfz99_1 := blk_frozen BK245.out 1) | (go_at_call 140; (with_reducible refine (impl_norm.calls a0 t240 t241 t248 _ A10.out).mono ?_); rintro e w100 ⟨rfl, hb⟩; have n0_ := Aside0.mk (Kd.R_below (by (with_reducible repeat (first | apply Kd.R_alloc | apply Kd.R_drewN | apply Kd.R_drew)); exact HO_3.out) hb); have n1_ := Aside0.mk (bbl BK237 hb); have n2_ := Aside0.mk (bbl BK244 hb); have n3_ := Aside0.mk (bbl BK245 hb); have n4_ := Aside0.mk (bbl BK246 hb); have n5_ := Aside0.mk (bst4 HB GE237 GE244 GE245 GE246 hb); clear HO_3; clear BK237; clear BK244; clear BK245; clear BK246; clear HB; have HO_3 := n0_; have BK237 := n1_; have BK244 := n2_; have BK245 := n3_; have BK246 := n4_; have HB := n5_; clear n0_ n1_ n2_ n3_ n4_ n5_; (try clear hb); (try clear hb2); (try clear hk); (try clear hi)))
      go_roundg k1
      case measure => have := HK1.out; omega
      case rel => exact ⟨(x3_1), (wrap64 (x10_1 + 1)), (by first | rfl | (simp; done) | (simp [*]; done)), H', ⟨by have := HK1.out; omega⟩, ⟨by (with_reducible repeat (first | apply Kd.R_alloc | apply Kd.R_drewN | apply Kd.R_drew)); exact Kd.R_mono HO_3.out (fun _ hk => trivial)⟩, ⟨bbw4 HB GE237 GE244 GE245 GE246⟩⟩
    ·rw [if_neg c9] at H
     have c9b0 : (t247 == 1) = false := beq_eq_false_iff_ne.mpr c9
     have c9b1 : (t247 != 1) = true := bne_iff_ne.mpr c9
     have H' := Aside0.mk H
     clear H
     try go_wp2_with (first | ((with_reducible refine gate_callee (f := 140) rfl ?_); refine goesL_ (some 39) rfl rfl Try.func140 (by kernel_rfl) rfl #[.int .i64 a0, .agg #[.int .i64 t238, .int .i64 t239]] rfl (by (try simp only [List.map_toArray, List.map_cons, List.map_nil]); first | done | rfl | (simp only [List.length_drop, List.length_take]; rfl)) ?_; (with_reducible refine (impl_norm.calls a0 t238 t239 t247 _ A8.out).mono ?_); rintro e w122 ⟨rfl, hb⟩; refine ⟨_, rfl, ?_⟩; have n0_ := Aside0.mk (Kd.R_below (by (with_reducible repeat (first | apply Kd.R_alloc | apply Kd.R_drewN | apply Kd.R_drew)); exact HO_3.out) hb); have n1_ := Aside0.mk (bbl BK237 hb); have n2_ := Aside0.mk (bbl BK244 hb); have n3_ := Aside0.mk (bbl BK245 hb); have n4_ := Aside0.mk (bbl BK246 hb); have n5_ := Aside0.mk (bst4 HB GE237 GE244 GE245 GE246 hb); clear HO_3; clear BK237; clear BK244; clear BK245; clear BK246; clear HB; have HO_3 := n0_; have BK237 := n1_; have BK244 := n2_; have BK245 := n3_; have BK246 := n4_; have HB := n5_; clear n0_ n1_ n2_ n3_ n4_ n5_; (try clear hb); (try clear hb2); (try clear hk); (try clear hi)))
     go_roundg k1
     case measure => have := HK1.out; omega
     case rel => exact ⟨(x3_1), (wrap64 (x10_1 + 1)), (by first | rfl | (simp; done) | (simp [*]; done)), H', ⟨by have := HK1.out; omega⟩, ⟨by (with_reducible repeat (first | apply Kd.R_alloc | apply Kd.R_drewN | apply Kd.R_drew)); exact Kd.R_mono HO_3.out (fun _ hk => trivial)⟩, ⟨bbw4 HB GE237 GE244 GE245 GE246⟩⟩
   ·rw [if_neg c4] at H
    have c4b0 : decide (x10_1 < 81) = false := decide_eq_false c4
    clear c4
    obtain rfl := Option.some.inj H
    go_wp2
    go_ret
    exact ⟨_, by first | rfl | (simp [errW_none, errW_some] <;> rfl) | (simp [*, errW_none, errW_some] <;> rfl), by (with_reducible repeat (first | apply Kd.R_alloc | apply Kd.R_drewN | apply Kd.R_drew)); exact HO_3.out, bbw0 HB⟩

/-! ### impl_latticeMats: function 83 -/
def impl_latticeMats.app (m : S33) (x y : Int) : Int × Int := (impl_Mat_apply.f m.f0 m.f1 m.f2 m.f3 x y).getD (0, 0)
def impl_latticeMats.hasB (a b c : Int) (t : Int × Int) : Bool := (impl_Lattice_has.f a b c t.1 t.2).getD false
/-- Does a matrix map a lattice into itself? -/
def impl_latticeMats.keep (a b c : Int) (m : S33) : Bool := impl_latticeMats.hasB a b c (impl_latticeMats.app m a 0) && impl_latticeMats.hasB a b c (impl_latticeMats.app m b c)
theorem impl_latticeMats.app_eq (m : S33) (x y : Int) : impl_Mat_apply.f m.f0 m.f1 m.f2 m.f3 x y = some ((impl_latticeMats.app m x y).1, (impl_latticeMats.app m x y).2) := rfl
theorem impl_latticeMats.has_eq (a b c : Int) (ha : a ≠ 0) (hc : c ≠ 0) (t : Int × Int) : impl_Lattice_has.f a b c t.1 t.2 = some (impl_latticeMats.hasB a b c t) := by
 have : (impl_Lattice_has.f a b c t.1 t.2).isSome = true := by
  simp [impl_Lattice_has.f, impl_Lattice_reduce.f, impl_mod.f, ha, hc]
 obtain ⟨r, hr⟩ := Option.isSome_iff_exists.1 this
 unfold impl_latticeMats.hasB
 rw [hr]; rfl
def impl_latticeMats.f (k : Nat) (a0 : Int) (a1_0 : Int) (a1_1 : Int) (a1_2 : Int) : Option (List S33) := if a1_0 = 0 then none else (if a1_2 = 0 then none else ((impl_pointMats.f k a0).bind fun l => some (l.filter (impl_latticeMats.keep a1_0 a1_1 a1_2))))
abbrev impl_latticeMats.Held (W : World) (a b c : Int) (L U V B : Nat) (x : S33) (w' : World) : Prop := Below W.heap.size W w' ∧ w'.cell? ⟨L, 0, none⟩ = some (.int .i64 a) ∧ w'.cell? ⟨L, 1, none⟩ = some (.int .i64 b) ∧ w'.cell? ⟨L, 2, none⟩ = some (.int .i64 c) ∧ w'.cell? ⟨U, 0, none⟩ = some (.int .i64 a) ∧ w'.cell? ⟨U, 1, none⟩ = some (.int .i64 0) ∧ w'.cell? ⟨V, 0, none⟩ = some (.int .i64 b) ∧ w'.cell? ⟨V, 1, none⟩ = some (.int .i64 c) ∧ w'.cell? ⟨B, 0, none⟩ = some (.int .i64 x.f0) ∧ w'.cell? ⟨B, 1, none⟩ = some (.int .i64 x.f1) ∧ w'.cell? ⟨B, 2, none⟩ = some (.int .i64 x.f2) ∧ w'.cell? ⟨B, 3, none⟩ = some (.int .i64 x.f3)
theorem impl_latticeMats.held_below {W : World} {a b c : Int} {L U V B : Nat} {x : S33} {w w' : World} (h : impl_latticeMats.Held W a b c L U V B x w) (hb : Below w.heap.size w w') : impl_latticeMats.Held W a b c L U V B x w' := by
 obtain ⟨h0, s0, s1, s2, s3, s4, s5, s6, s7, s8, s9, s10⟩ := h
 exact ⟨below_then h0 h0.size hb, (hb.cell (World.block_lt_of_cell? w _ s0)).trans s0, (hb.cell (World.block_lt_of_cell? w _ s1)).trans s1, (hb.cell (World.block_lt_of_cell? w _ s2)).trans s2, (hb.cell (World.block_lt_of_cell? w _ s3)).trans s3, (hb.cell (World.block_lt_of_cell? w _ s4)).trans s4, (hb.cell (World.block_lt_of_cell? w _ s5)).trans s5, (hb.cell (World.block_lt_of_cell? w _ s6)).trans s6, (hb.cell (World.block_lt_of_cell? w _ s7)).trans s7, (hb.cell (World.block_lt_of_cell? w _ s8)).trans s8, (hb.cell (World.block_lt_of_cell? w _ s9)).trans s9, (hb.cell (World.block_lt_of_cell? w _ s10)).trans s10⟩
theorem impl_latticeMats.held_drew {W : World} {a b c : Int} {L U V B : Nat} {x : S33} {w : World} (h : impl_latticeMats.Held W a b c L U V B x w) : impl_latticeMats.Held W a b c L U V B x w.drew := ⟨below_drew1 h.1, h.2⟩
set_option maxHeartbeats 40000000 in
set_option maxRecDepth 100000 in
theorem impl_latticeMats.pred (a b c : Int) (L U V : Nat) (W : World) (hl0 : W.cell? ⟨L, 0, none⟩ = some (.int .i64 a)) (hl1 : W.cell? ⟨L, 1, none⟩ = some (.int .i64 b)) (hl2 : W.cell? ⟨L, 2, none⟩ = some (.int .i64 c)) (hu0 : W.cell? ⟨U, 0, none⟩ = some (.int .i64 a)) (hu1 : W.cell? ⟨U, 1, none⟩ = some (.int .i64 0)) (hv0 : W.cell? ⟨V, 0, none⟩ = some (.int .i64 b)) (hv1 : W.cell? ⟨V, 1, none⟩ = some (.int .i64 c)) (ha : a ≠ 0) (hc : c ≠ 0) (x : S33) :
  Calls Try.prog 123 (#[.agg #[.int .i64 x.f0, .int .i64 x.f1, .int .i64 x.f2, .int .i64 x.f3]] ++ #[.pointer (some ⟨L, 0, none⟩), .pointer (some ⟨U, 0, none⟩), .pointer (some ⟨V, 0, none⟩)]) W fun e w' => e = .returned (.bool (!(impl_latticeMats.keep a b c x))) ∧ Below W.heap.size W w' := by
 show Calls Try.prog 123 #[.agg #[.int .i64 x.f0, .int .i64 x.f1, .int .i64 x.f2, .int .i64 x.f3], .pointer (some ⟨L, 0, none⟩), .pointer (some ⟨U, 0, none⟩), .pointer (some ⟨V, 0, none⟩)] W _
 have hu33 := Try.underlying33
 have hu34 := Try.underlying34
 have hu31 := Try.underlying31
 have A1 := Aside0.mk (impl_latticeMats.app_eq x a 0)
 have A2 := Aside0.mk (impl_latticeMats.has_eq a b c ha hc (impl_latticeMats.app x a 0))
 have A3 := Aside0.mk (impl_latticeMats.app_eq x b c)
 have A4 := Aside0.mk (impl_latticeMats.has_eq a b c ha hc (impl_latticeMats.app x b c))
 unfold impl_latticeMats.keep
 generalize impl_latticeMats.app x a 0 = p1 at A1 A2 ⊢
 generalize impl_latticeMats.app x b c = p2 at A3 A4 ⊢
 generalize impl_latticeMats.hasB a b c p1 = r1 at A2 ⊢
 generalize impl_latticeMats.hasB a b c p2 = r2 at A4 ⊢
 have hb0 := below_alloc (Below.refl W.heap.size W) (.cells #[.int .i64 x.f0, .int .i64 x.f1, .int .i64 x.f2, .int .i64 x.f3] 33)
 have hS0 : impl_latticeMats.Held W a b c L U V W.heap.size x (W.alloc (.cells #[.int .i64 x.f0, .int .i64 x.f1, .int .i64 x.f2, .int .i64 x.f3] 33)) :=
  ⟨hb0, (hb0.cell (World.block_lt_of_cell? W _ hl0)).trans hl0, (hb0.cell (World.block_lt_of_cell? W _ hl1)).trans hl1, (hb0.cell (World.block_lt_of_cell? W _ hl2)).trans hl2, (hb0.cell (World.block_lt_of_cell? W _ hu0)).trans hu0, (hb0.cell (World.block_lt_of_cell? W _ hu1)).trans hu1, (hb0.cell (World.block_lt_of_cell? W _ hv0)).trans hv0, (hb0.cell (World.block_lt_of_cell? W _ hv1)).trans hv1, by simp, by simp, by simp, by simp⟩
 have C1 := Aside0.mk (fun (w' : World) (h : impl_latticeMats.Held W a b c L U V W.heap.size x w') => (impl_Mat_apply.calls x.f0 x.f1 x.f2 x.f3 a 0 p1.1 p1.2 w' A1.out).mono (fun e w'' (he : _ ∧ _) => (⟨he.1, impl_latticeMats.held_below h he.2⟩ : _ ∧ impl_latticeMats.Held W a b c L U V W.heap.size x w'')))
 have C2 := Aside0.mk (fun (w' : World) (h : impl_latticeMats.Held W a b c L U V W.heap.size x w') => (impl_Lattice_has.calls a b c p1.1 p1.2 r1 w' A2.out).mono (fun e w'' (he : _ ∧ _) => (⟨he.1, impl_latticeMats.held_below h he.2⟩ : _ ∧ impl_latticeMats.Held W a b c L U V W.heap.size x w'')))
 have C3 := Aside0.mk (fun (w' : World) (h : impl_latticeMats.Held W a b c L U V W.heap.size x w') => (impl_Mat_apply.calls x.f0 x.f1 x.f2 x.f3 b c p2.1 p2.2 w' A3.out).mono (fun e w'' (he : _ ∧ _) => (⟨he.1, impl_latticeMats.held_below h he.2⟩ : _ ∧ impl_latticeMats.Held W a b c L U V W.heap.size x w'')))
 have C4 := Aside0.mk (fun (w' : World) (h : impl_latticeMats.Held W a b c L U V W.heap.size x w') => (impl_Lattice_has.calls a b c p2.1 p2.2 r2 w' A4.out).mono (fun e w'' (he : _ ∧ _) => (⟨he.1, impl_latticeMats.held_below h he.2⟩ : _ ∧ impl_latticeMats.Held W a b c L U V W.heap.size x w'')))
 clear hl0 hl1 hl2 hu0 hu1 hv0 hv1 ha hc hb0
 have hS1 := hS0
 obtain ⟨sb, s0, s1, s2, s3, s4, s5, s6, s7, s8, s9, s10⟩ := hS0
 cases r1 with
 | false =>
  go_enter Try.func123, Try.ntmps123
  go_wp2
  refine wp_region_held_drew (S := (fun w' => Below W.heap.size W w' ∧ w'.cell? ⟨L, 0, none⟩ = some (.int .i64 a) ∧ w'.cell? ⟨L, 1, none⟩ = some (.int .i64 b) ∧ w'.cell? ⟨L, 2, none⟩ = some (.int .i64 c) ∧ w'.cell? ⟨U, 0, none⟩ = some (.int .i64 a) ∧ w'.cell? ⟨U, 1, none⟩ = some (.int .i64 0) ∧ w'.cell? ⟨V, 0, none⟩ = some (.int .i64 b) ∧ w'.cell? ⟨V, 1, none⟩ = some (.int .i64 c) ∧ w'.cell? ⟨W.heap.size, 0, none⟩ = some (.int .i64 x.f0) ∧ w'.cell? ⟨W.heap.size, 1, none⟩ = some (.int .i64 x.f1) ∧ w'.cell? ⟨W.heap.size, 2, none⟩ = some (.int .i64 x.f2) ∧ w'.cell? ⟨W.heap.size, 3, none⟩ = some (.int .i64 x.f3))) (by kernel_rfl) (impl_latticeMats.held_drew hS1) (fun hHeld => ?_)
  refine wpAnyH_take (i := 0) (v := ?_) rfl (by kernel_rfl) (by kernel_rfl) (by kernel_rfl) (fun _ _ _ h => h) (Or.inl ⟨by rfl, ?_⟩) (by assumption) ?_
  rotate_left
  ·intro w' hSw; (try dsimp only at hSw); go_simp; first | done | with_reducible rfl
  rotate_left
  try simp only [Act.put, sA, sB, sC]
  refine wpAnyH_take (i := 1) (v := ?_) rfl (by kernel_rfl) (by kernel_rfl) (by kernel_rfl) (fun _ _ _ h => h) (Or.inl ⟨by rfl, ?_⟩) (by assumption) ?_
  rotate_left
  ·intro w' hSw; (try dsimp only at hSw); go_simp; first | done | with_reducible rfl
  rotate_left
  try simp only [Act.put, sA, sB, sC]
  refine wpAnyH_take (i := 2) (v := ?_) rfl (by kernel_rfl) (by kernel_rfl) (by kernel_rfl) (fun _ _ _ h => h) (Or.inl ⟨by rfl, ?_⟩) (by assumption) ?_
  rotate_left
  ·intro w' hSw; (try dsimp only at hSw); go_simp; first | done | with_reducible rfl
  rotate_left
  try simp only [Act.put, sA, sB, sC]
  refine wpAnyH_ready (rs := [3]) (by kernel_rfl) (by simp) ?_
  refine AllReadyH.cons rfl (fun K hK => ?_) AllReadyH.nil
  go_simp
  go_at_call 124
  (with_reducible refine (C1.out _ ?_).mono ?_)
  (assumption)
  rintro e w' ⟨rfl, hS'⟩
  refine hK.out _ _ (hS') (fun hHeld => ?_)
  clear hK K
  try simp only [Act.put, sA, sB, sC]
  refine wpAnyH_ready (rs := [4]) (by kernel_rfl) (by simp) ?_
  refine AllReadyH.cons rfl (fun K hK => ?_) AllReadyH.nil
  go_simp
  go_at_call 93
  (with_reducible refine (C2.out _ ?_).mono ?_)
  (assumption)
  rintro e w' ⟨rfl, hS'⟩
  refine hK.out _ _ (hS') (fun hHeld => ?_)
  clear hK K
  try simp only [Act.put, sA, sB, sC]
  refine wpAnyH_take (i := 5) (oi := { dst := some 11, op := _, type := _, pos := _, after := _, guard := _ }) (v := ?_) rfl (by kernel_rfl) (by kernel_rfl) (by kernel_rfl) (fun _ _ _ h => h) (Or.inl ⟨by rfl, ?_⟩) (by assumption) ?_
  rotate_left
  ·intro w' hSw; (try dsimp only at hSw); go_simp; first | done | with_reducible rfl
  rotate_left
  try simp only [Act.put, sA, sB, sC]
  refine wpAnyH_take (i := 6) (oi := { dst := some 12, op := _, type := _, pos := _, after := _, guard := _ }) (v := ?_) rfl (by kernel_rfl) (by kernel_rfl) (by kernel_rfl) (fun _ _ _ h => h) (Or.inl ⟨by rfl, ?_⟩) (by assumption) ?_
  rotate_left
  ·intro w' hSw; (try dsimp only at hSw); go_simp; first | done | with_reducible rfl
  rotate_left
  try simp only [Act.put, sA, sB, sC]
  refine wpAnyH_take (i := 7) (oi := { dst := some 13, op := _, type := _, pos := _, after := _, guard := _ }) (v := _) rfl (by kernel_rfl) (by kernel_rfl) (by kernel_rfl) (fun _ _ _ h => h) (Or.inr ⟨by rfl, rfl⟩) (by assumption) ?_
  try simp only [Act.put, sA, sB, sC]
  refine wpAnyH_take (i := 8) (oi := { dst := some 14, op := _, type := _, pos := _, after := _, guard := _ }) (v := _) rfl (by kernel_rfl) (by kernel_rfl) (by kernel_rfl) (fun _ _ _ h => h) (Or.inr ⟨by rfl, rfl⟩) (by assumption) ?_
  try simp only [Act.put, sA, sB, sC]
  refine wpAnyH_take (i := 9) (oi := { dst := some 15, op := _, type := _, pos := _, after := _, guard := _ }) (v := _) rfl (by kernel_rfl) (by kernel_rfl) (by kernel_rfl) (fun _ _ _ h => h) (Or.inr ⟨by rfl, rfl⟩) (by assumption) ?_
  try simp only [Act.put, sA, sB, sC]
  refine wpAnyH_take (i := 10) (oi := { dst := some 16, op := _, type := _, pos := _, after := _, guard := _ }) (v := _) rfl (by kernel_rfl) (by kernel_rfl) (by kernel_rfl) (fun _ _ _ h => h) (Or.inr ⟨by rfl, rfl⟩) (by assumption) ?_
  try simp only [Act.put, sA, sB, sC]
  refine wpAnyH_take (i := 11) (oi := { dst := some 17, op := _, type := _, pos := _, after := _, guard := _ }) (v := _) rfl (by kernel_rfl) (by kernel_rfl) (by kernel_rfl) (fun _ _ _ h => h) (Or.inr ⟨by rfl, rfl⟩) (by assumption) ?_
  try simp only [Act.put, sA, sB, sC]
  refine wpAnyH_take (i := 12) (oi := { dst := some 18, op := Op.unOp UnOp.not _ (Operand.tmp 17), type := _, pos := _, after := _, guard := _ }) (v := _) rfl (by kernel_rfl) (by kernel_rfl) (by kernel_rfl) (fun _ _ _ h => h) (Or.inr ⟨by rfl, rfl⟩) (by assumption) ?_
  try simp only [Act.put, sA, sB, sC]
  refine wpAnyH_take (i := 13) (oi := { dst := some 19, op := Op.pick (Operand.tmp 12) (Operand.const (Value.bool true)) (Operand.tmp 18), type := _, pos := _, after := _, guard := _ }) (v := ?_) rfl (by kernel_rfl) (by kernel_rfl) (by kernel_rfl) (fun _ _ _ h => h) (Or.inl ⟨by rfl, ?_⟩) (by assumption) ?_
  rotate_left
  ·intro w' hSw; (try dsimp only at hSw); go_simp; first | done | with_reducible rfl
  rotate_left
  try simp only [Act.put, sA, sB, sC]
  refine wpAnyH_take (i := 14) (oi := { dst := some 5, op := Op.assign (Operand.tmp 19), type := _, pos := _, after := _, guard := _ }) (v := ?_) rfl (by kernel_rfl) (by kernel_rfl) (by kernel_rfl) (fun _ _ _ h => h) (Or.inl ⟨by rfl, ?_⟩) (by assumption) ?_
  rotate_left
  ·intro w' hSw; (try dsimp only at hSw); go_simp; first | done | with_reducible rfl
  rotate_left
  try simp only [Act.put, sA, sB, sC]
  refine wpAnyH_done (by kernel_rfl) ?_ _
  all_goals go_wp2
  all_goals go_ret
  all_goals exact ⟨by first | rfl | (cases r2 <;> rfl), (show impl_latticeMats.Held W a b c L U V W.heap.size x _ by assumption).1⟩
 | true =>
  go_enter Try.func123, Try.ntmps123
  go_wp2
  first | (go_region_held3 (fun w' => Below W.heap.size W w' ∧ w'.cell? ⟨L, 0, none⟩ = some (.int .i64 a) ∧ w'.cell? ⟨L, 1, none⟩ = some (.int .i64 b) ∧ w'.cell? ⟨L, 2, none⟩ = some (.int .i64 c) ∧ w'.cell? ⟨U, 0, none⟩ = some (.int .i64 a) ∧ w'.cell? ⟨U, 1, none⟩ = some (.int .i64 0) ∧ w'.cell? ⟨V, 0, none⟩ = some (.int .i64 b) ∧ w'.cell? ⟨V, 1, none⟩ = some (.int .i64 c) ∧ w'.cell? ⟨W.heap.size, 0, none⟩ = some (.int .i64 x.f0) ∧ w'.cell? ⟨W.heap.size, 1, none⟩ = some (.int .i64 x.f1) ∧ w'.cell? ⟨W.heap.size, 2, none⟩ = some (.int .i64 x.f2) ∧ w'.cell? ⟨W.heap.size, 3, none⟩ = some (.int .i64 x.f3)) (first | assumption | exact impl_latticeMats.held_drew hS1 | go_keep)
   (first | (go_at_call 124; (with_reducible refine (C1.out _ ?_).mono ?_); (assumption); rintro e w' ⟨rfl, hS'⟩) | (go_at_call 93; (with_reducible refine (C2.out _ ?_).mono ?_); (assumption); rintro e w' ⟨rfl, hS'⟩) | (go_at_call 124; (with_reducible refine (C3.out _ ?_).mono ?_); (assumption); rintro e w' ⟨rfl, hS'⟩) | (go_at_call 93; (with_reducible refine (C4.out _ ?_).mono ?_); (assumption); rintro e w' ⟨rfl, hS'⟩))) | (fail "held3")
  all_goals go_wp2
  all_goals go_ret
  all_goals exact ⟨by first | rfl | (cases r2 <;> rfl), (show impl_latticeMats.Held W a b c L U V W.heap.size x _ by assumption).1⟩
set_option maxHeartbeats 4000000 in
set_option maxRecDepth 100000 in
theorem impl_latticeMats.calls (k : Nat) (a0 : Int) (a1_0 : Int) (a1_1 : Int) (a1_2 : Int) (r : List S33) (w : World) (h : impl_latticeMats.f k a0 a1_0 a1_1 a1_2 = some r) :
  Calls Try.prog 83 #[.int .i64 a0, .agg #[.int .i64 a1_0, .int .i64 a1_1, .int .i64 a1_2]] w fun e w' => ∃ v0_ : Value, e = .returned (v0_) ∧ Kd.R k33 33 w' w.heap.size (fun _ => True) v0_ r ∧ Below w.heap.size w w' := by
 have hu34 := Try.underlying34
 have hu31 := Try.underlying31
 unfold impl_latticeMats.f at h
 by_cases ha : a1_0 = 0
 ·rw [if_pos ha] at h; cases h
 rw [if_neg ha] at h
 by_cases hc : a1_2 = 0
 ·rw [if_pos hc] at h; cases h
 rw [if_neg hc] at h
 obtain ⟨l, h1, h2⟩ := Option.bind_eq_some_iff.1 h
 have hr := Option.some.inj h2
 subst hr
 have A1 := Aside0.mk h1
 have HA := Aside0.mk ha
 have HC := Aside0.mk hc
 have ABS := Aside0.mk (show impl_Lattice_basis.f a1_0 a1_1 a1_2 = some (a1_0, 0, a1_1, a1_2) from rfl)
 clear h h1 h2 ha hc
 have eg : ∀ args w, (callFunc 123 args).run Try.prog w = .ok (.enter 123 args) w := enters_of Try.func123 (by kernel_rfl) rfl
 have EG := Aside0.mk eg
 clear eg
 go_enter Try.func83, Try.ntmps83
 go_wp2_with (first | (go_at_call 103; (with_reducible refine (impl_Lattice_basis.calls _ _ _ _ _ _ _ _ ABS.out).mono ?_); rintro e w2 ⟨rfl, hb2⟩; have HB2 := Aside0.mk (below_then (below_alloc (Below.refl w.heap.size w) _) (below_alloc (Below.refl w.heap.size w) _).size hb2); have HL := Aside0.mk hb2; clear hb2) | (go_at_call 122; (with_reducible refine (impl_pointMats.calls k a0 l _ A1.out).mono ?_); rintro e w3 ⟨v0, rfl, hR, hb3⟩; have HR3 := Aside0.mk hR; have HB3 := Aside0.mk hb3; clear hR hb3))
 obtain ⟨wA, hwA⟩ : ∃ wA, wA = (w2.alloc (.cells #[.int .i64 a1_0, .int .i64 0] 34)).alloc (.cells #[.int .i64 a1_1, .int .i64 a1_2] 34) := ⟨_, rfl⟩
 have hAB : Below w2.heap.size w2 wA := by rw [hwA]; exact below_alloc (below_alloc (Below.refl _ _) _) _
 have hl : ∀ o v, (w.alloc (.cells #[.int .i64 a1_0, .int .i64 a1_1, .int .i64 a1_2] 31)).cell? ⟨w.heap.size, o, none⟩ = some v → wA.cell? ⟨w.heap.size, o, none⟩ = some v := fun o v hv => by
  have h1 : w2.cell? ⟨w.heap.size, o, none⟩ = some v := (HL.out.cell (p := ⟨w.heap.size, o, none⟩) (by simp)).trans hv
  exact (hAB.cell (World.block_lt_of_cell? w2 _ h1)).trans h1
 have hl0 := hl 0 (.int .i64 a1_0) (by simp)
 have hl1 := hl 1 (.int .i64 a1_1) (by simp)
 have hl2 := hl 2 (.int .i64 a1_2) (by simp)
 have hu0 : wA.cell? ⟨w2.heap.size, 0, none⟩ = some (.int .i64 a1_0) := by rw [hwA]; simp
 have hu1 : wA.cell? ⟨w2.heap.size, 1, none⟩ = some (.int .i64 0) := by rw [hwA]; simp
 have hv0 : wA.cell? ⟨w2.heap.size + 1, 0, none⟩ = some (.int .i64 a1_1) := by rw [hwA]; simp
 have hv1 : wA.cell? ⟨w2.heap.size + 1, 1, none⟩ = some (.int .i64 a1_2) := by rw [hwA]; simp
 have hBA : Below w.heap.size w wA := below_then HB2.out HB2.out.size hAB
 have HR4 := HR3.out
 have HB4 := HB3.out
 rw [← hwA] at HR4 HB4
 have up : ∀ (W : World) (p : Addr) (v : Value), Below wA.heap.size wA W → wA.cell? p = some v → W.cell? p = some v := fun W p v hb h => (hb.cell (World.block_lt_of_cell? wA _ h)).trans h
 refine (impl_Mat_121.calls (fun x => !(impl_latticeMats.keep a1_0 a1_1 a1_2 x)) 123 #[.pointer (some ⟨w.heap.size, 0, none⟩), .pointer (some ⟨w2.heap.size, 0, none⟩), .pointer (some ⟨w2.heap.size + 1, 0, none⟩)] EG.out (fun k_ => wA.heap.size ≤ k_) v0 l wA w3 HB4 (Kd.R_mono (Kd.R_bound HR4) (fun k_ hk => hk.2.1)) (fun x W hb _ => impl_latticeMats.pred a1_0 a1_1 a1_2 w.heap.size w2.heap.size (w2.heap.size + 1) W (up W _ _ hb hl0) (up W _ _ hb hl1) (up W _ _ hb hl2) (up W _ _ hb hu0) (up W _ _ hb hu1) (up W _ _ hb hv0) (up W _ _ hb hv1) HA.out HC.out x)).mono ?_
 rintro e w4 ⟨v', rfl, hR4, hb4, _⟩
 have HR5 := Aside0.mk hR4
 have HB5 := Aside0.mk hb4
 have HBA := Aside0.mk hBA
 clear hl hl0 hl1 hl2 hu0 hu1 hv0 hv1 hAB hBA HR4 HB4 up hR4 hb4 hwA
 go_wp2
 go_ret
 refine ⟨_, rfl, ?_, below_then HBA.out HBA.out.size HB5.out⟩
 have hf : (l.filter fun x => !(!(impl_latticeMats.keep a1_0 a1_1 a1_2 x))) = l.filter (impl_latticeMats.keep a1_0 a1_1 a1_2) := by congr 1; funext x; simp
 have := HR5.out
 rw [hf] at this
 exact Kd.R_mono (Kd.R_lower this HBA.out.size) (fun _ _ => trivial)
end Go.Proofs.Ytndfnaehpdkaiaa.PA
