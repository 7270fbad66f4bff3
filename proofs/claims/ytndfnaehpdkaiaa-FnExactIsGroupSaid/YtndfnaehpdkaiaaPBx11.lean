/- Walks written by program: each Go function that the law reaches comes to the plain function beside it. -/
import Derived.Test.YtndfnaehpdkaiaaPBx0
import Derived.Test.YtndfnaehpdkaiaaPBx10
namespace Go.Proofs.Ytndfnaehpdkaiaa.PB
open Go.RowKit Go.Proofs.YtndfnaehpdkaiaaW.PrintWords Go.Proofs.YtndfnaehpdkaiaaW.PrintLast Go.Proofs.YtndfnaehpdkaiaaW.PrintMore
attribute [local go_sem] max2_int min2_int max_two min_two max_three min_three max_four min_four   -- for this text's walks alone
set_option linter.unusedVariables false
set_option linter.unusedSimpArgs false

/-! ### impl_pointMats: function 122 -/
def impl_pointMats.l0 : Nat → Int → List (S33) → Int → Option ((List (S33)))
 | 0, _, _, _ => none
 | k + 1, x0, x3, x10 => if x10 < 81 then ((impl_Mat_apply.f (wrap64 ((wrap64 (Int.tdiv x10 27)) - 1)) (wrap64 ((Int.tmod (wrap64 (Int.tdiv x10 9)) 3) - 1)) (wrap64 ((Int.tmod (wrap64 (Int.tdiv x10 3)) 3) - 1)) (wrap64 ((Int.tmod x10 3) - 1)) 1 0).bind fun bt357 => ((impl_Mat_apply.f (wrap64 ((wrap64 (Int.tdiv x10 27)) - 1)) (wrap64 ((Int.tmod (wrap64 (Int.tdiv x10 9)) 3) - 1)) (wrap64 ((Int.tmod (wrap64 (Int.tdiv x10 3)) 3) - 1)) (wrap64 ((Int.tmod x10 3) - 1)) 0 1).bind fun bt359 => ((impl_Mat_apply.f (wrap64 ((wrap64 (Int.tdiv x10 27)) - 1)) (wrap64 ((Int.tmod (wrap64 (Int.tdiv x10 9)) 3) - 1)) (wrap64 ((Int.tmod (wrap64 (Int.tdiv x10 3)) 3) - 1)) (wrap64 ((Int.tmod x10 3) - 1)) 1 1).bind fun bt361 => ((impl_norm.f x0 bt357.1 bt357.2).bind fun t366 => (if t366 = 1 then ((impl_norm.f x0 bt359.1 bt359.2).bind fun t367 => (if t367 = 1 then ((impl_norm.f x0 bt361.1 bt361.2).bind fun t368 => (if t368 = (wrap64 (2 + x0)) then (if x3.length < 4398046511104 then (impl_pointMats.l0 k x0 (x3 ++ [(⟨wrap64 ((wrap64 (Int.tdiv x10 27)) - 1), wrap64 ((Int.tmod (wrap64 (Int.tdiv x10 9)) 3) - 1), wrap64 ((Int.tmod (wrap64 (Int.tdiv x10 3)) 3) - 1), wrap64 ((Int.tmod x10 3) - 1)⟩ : S33)]) (wrap64 (x10 + 1))) else (none)) else (impl_pointMats.l0 k x0 x3 (wrap64 (x10 + 1))))) else (impl_pointMats.l0 k x0 x3 (wrap64 (x10 + 1))))) else (impl_pointMats.l0 k x0 x3 (wrap64 (x10 + 1)))))))) else (some x3)
def impl_pointMats.f (k : Nat) (a0 : Int) : Option ((List (S33))) := impl_pointMats.l0 k a0 (([] : List (S33))) 0
def impl_pointMats.T6 : Bool × List (List Nat × List Nat) := (true, [([], []), ([], []), ([0, 1], [0, 1]), ([], []), ([], []), ([3, 4, 2], [3, 4]), ([], []), ([], []), ([6, 7, 5], [6, 7]), ([], []), ([], []), ([], []), ([9, 2, 8, 0, 1, 2, 9, 10, 11], [2, 9]), ([10, 5, 12, 0, 1, 2, 3, 4, 5, 9, 10, 11, 12], [5, 10]), ([11, 8, 13, 0, 1, 2, 3, 4, 5, 6, 7, 8, 9, 10, 11, 12, 13], [8, 11])])
def impl_pointMats.B6 : List Nat := [0, 0, 3, 0, 0, 31, 0, 0, 255, 0, 0, 0, 4095, 8191, 16383]
theorem impl_pointMats.tab6 : rtab .any (opsOf Try.f122 6) = impl_pointMats.T6 := by kernel_rfl
theorem impl_pointMats.bits6 : waitsOk impl_pointMats.T6.2 impl_pointMats.B6 = true := by kernel_rfl
set_option maxHeartbeats 8000000 in
set_option maxRecDepth 100000 in
theorem impl_pointMats.calls (k : Nat) (a0 : Int) (r : List (S33)) (w : World) (h : impl_pointMats.f k a0 = some r) :
  Calls Try.prog 122 #[.int .i64 a0] w fun e w' => ∃ v0_ : Value, e = .returned (v0_) ∧ Kd.R k33 33 w' w.heap.size (fun _ => True) v0_ r ∧ Below w.heap.size w w' := by
 have hu33 := Try.underlying33
 have hu34 := Try.underlying34
 have HB := Aside0.mk (Below.refl w.heap.size w)
 have H : (impl_pointMats.l0 k a0 (([] : List (S33))) 0) = some r := h
 clear h
 obtain ⟨y353, hy353⟩ : ∃ y_ : List (S33), y_ = (([] : List (S33))) := ⟨_, rfl⟩
 replace H : (impl_pointMats.l0 k a0 y353 0) = some r := by first | (rw [hy353]; with_reducible exact H) | (have H2_ := (Option.bind_some _ _).symm.trans H; rw [hy353]; with_reducible exact H2_) | (have H2_ := (Option.bind_some _ _).symm.trans H; with_reducible exact H2_) | with_reducible exact H | (rw [hy353]; exact H) | exact H
 have Ny353 := Aside0.mk hy353
 clear hy353
 have H' := Aside0.mk H
 clear H
 go_enter Try.func122, Try.ntmps122
 go_wp2_with (first | ((with_reducible refine gate_dst (N := 9) rfl ?_); refine Kd.R_lit k33 _ 33 ?hg (N := 9) ?hd (xs := ([] : List (S33))) (inner := []) (ok := fun _ => True) (okp := fun _ => True) ?hr ?hp (fun _ hk => hk) trivial (Below.refl _ _) (Nat.le_refl _) (by simp) ?_; (case hd => rfl); (case hg => rfl); (case hr => first | (go_simp; done) | (go_simp; rfl)); (case hp => exact (Reps.none _ _)); intro v354 w2 ho3 hb hg_ hnew_; clear hg_ hnew_; (first | rw [← Ny353.out] at ho3 | (simp only [Int.reduceToNat] at ho3; rw [← Ny353.out] at ho3)); have HO355 := Aside0.mk (Kd.R_lower ho3 (bsz0 HB)); replace HB := Aside0.mk (bst0 HB hb); clear hb ho3))
 go_loopg [3, 10] k (fun kq v3 v10 w' => ∃ (x3_1 : List (S33)) (x10_1 : Int), v10 = .int .i64 x10_1 ∧ Aside0 (impl_pointMats.l0 kq a0 x3_1 x10_1 = some r) ∧ Aside0 (kq ≤ k) ∧ Aside0 (Kd.R k33 33 w' w.heap.size (fun _ => True) v3 x3_1) ∧ Aside0 (Below w.heap.size w w'))
 case atStart => exact ⟨(y353), (0), (by first | rfl | (simp; done) | (simp [*]; done)), H', ⟨Nat.le_refl _⟩, ⟨by (with_reducible repeat (first | apply Kd.R_alloc | apply Kd.R_drewN | apply Kd.R_drew)); exact HO355.out⟩, ⟨bbw0 HB⟩⟩
 case round =>
  clear H'
  try clear c1
  try clear p2
  obtain ⟨x3_1, x10_1, rfl, HA, HK1, HO_3, HB⟩ := hrel
  cases gk with
  | zero => exact absurd HA.out (by simp [impl_pointMats.l0])
  | succ k1 =>
   have H := HA.out
   clear HA
   simp only [impl_pointMats.l0] at H
   by_cases c4 : x10_1 < 81
   ·rw [if_pos c4] at H
    have c4b0 : decide (x10_1 < 81) = true := decide_eq_true c4
    clear c4
    replace H := Option.bind_eq_some_iff.mp H
    obtain ⟨⟨t357, t358⟩, A50, H⟩ := H
    replace H : ((impl_Mat_apply.f (wrap64 ((wrap64 (Int.tdiv x10_1 27)) - 1)) (wrap64 ((Int.tmod (wrap64 (Int.tdiv x10_1 9)) 3) - 1)) (wrap64 ((Int.tmod (wrap64 (Int.tdiv x10_1 3)) 3) - 1)) (wrap64 ((Int.tmod x10_1 3) - 1)) 0 1).bind fun bt359 => ((impl_Mat_apply.f (wrap64 ((wrap64 (Int.tdiv x10_1 27)) - 1)) (wrap64 ((Int.tmod (wrap64 (Int.tdiv x10_1 9)) 3) - 1)) (wrap64 ((Int.tmod (wrap64 (Int.tdiv x10_1 3)) 3) - 1)) (wrap64 ((Int.tmod x10_1 3) - 1)) 1 1).bind fun bt361 => ((impl_norm.f a0 t357 t358).bind fun t366 => (if t366 = 1 then ((impl_norm.f a0 bt359.1 bt359.2).bind fun t367 => (if t367 = 1 then ((impl_norm.f a0 bt361.1 bt361.2).bind fun t368 => (if t368 = (wrap64 (2 + a0)) then (if x3_1.length < 4398046511104 then (impl_pointMats.l0 k1 a0 (x3_1 ++ [(⟨wrap64 ((wrap64 (Int.tdiv x10_1 27)) - 1), wrap64 ((Int.tmod (wrap64 (Int.tdiv x10_1 9)) 3) - 1), wrap64 ((Int.tmod (wrap64 (Int.tdiv x10_1 3)) 3) - 1), wrap64 ((Int.tmod x10_1 3) - 1)⟩ : S33)]) (wrap64 (x10_1 + 1))) else (none)) else (impl_pointMats.l0 k1 a0 x3_1 (wrap64 (x10_1 + 1))))) else (impl_pointMats.l0 k1 a0 x3_1 (wrap64 (x10_1 + 1))))) else (impl_pointMats.l0 k1 a0 x3_1 (wrap64 (x10_1 + 1))))))) = some r := H
    have A5 := Aside0.mk A50
    clear A50
    replace H := Option.bind_eq_some_iff.mp H
    obtain ⟨⟨t359, t360⟩, A60, H⟩ := H
    replace H : ((impl_Mat_apply.f (wrap64 ((wrap64 (Int.tdiv x10_1 27)) - 1)) (wrap64 ((Int.tmod (wrap64 (Int.tdiv x10_1 9)) 3) - 1)) (wrap64 ((Int.tmod (wrap64 (Int.tdiv x10_1 3)) 3) - 1)) (wrap64 ((Int.tmod x10_1 3) - 1)) 1 1).bind fun bt361 => ((impl_norm.f a0 t357 t358).bind fun t366 => (if t366 = 1 then ((impl_norm.f a0 t359 t360).bind fun t367 => (if t367 = 1 then ((impl_norm.f a0 bt361.1 bt361.2).bind fun t368 => (if t368 = (wrap64 (2 + a0)) then (if x3_1.length < 4398046511104 then (impl_pointMats.l0 k1 a0 (x3_1 ++ [(⟨wrap64 ((wrap64 (Int.tdiv x10_1 27)) - 1), wrap64 ((Int.tmod (wrap64 (Int.tdiv x10_1 9)) 3) - 1), wrap64 ((Int.tmod (wrap64 (Int.tdiv x10_1 3)) 3) - 1), wrap64 ((Int.tmod x10_1 3) - 1)⟩ : S33)]) (wrap64 (x10_1 + 1))) else (none)) else (impl_pointMats.l0 k1 a0 x3_1 (wrap64 (x10_1 + 1))))) else (impl_pointMats.l0 k1 a0 x3_1 (wrap64 (x10_1 + 1))))) else (impl_pointMats.l0 k1 a0 x3_1 (wrap64 (x10_1 + 1)))))) = some r := H
    have A6 := Aside0.mk A60
    clear A60
    replace H := Option.bind_eq_some_iff.mp H
    obtain ⟨⟨t361, t362⟩, A70, H⟩ := H
    replace H : ((impl_norm.f a0 t357 t358).bind fun t366 => (if t366 = 1 then ((impl_norm.f a0 t359 t360).bind fun t367 => (if t367 = 1 then ((impl_norm.f a0 t361 t362).bind fun t368 => (if t368 = (wrap64 (2 + a0)) then (if x3_1.length < 4398046511104 then (impl_pointMats.l0 k1 a0 (x3_1 ++ [(⟨wrap64 ((wrap64 (Int.tdiv x10_1 27)) - 1), wrap64 ((Int.tmod (wrap64 (Int.tdiv x10_1 9)) 3) - 1), wrap64 ((Int.tmod (wrap64 (Int.tdiv x10_1 3)) 3) - 1), wrap64 ((Int.tmod x10_1 3) - 1)⟩ : S33)]) (wrap64 (x10_1 + 1))) else (none)) else (impl_pointMats.l0 k1 a0 x3_1 (wrap64 (x10_1 + 1))))) else (impl_pointMats.l0 k1 a0 x3_1 (wrap64 (x10_1 + 1))))) else (impl_pointMats.l0 k1 a0 x3_1 (wrap64 (x10_1 + 1))))) = some r := H
    have A7 := Aside0.mk A70
    clear A70
    have Hq_ := Aside0.mk H
    clear H
    try go_wp2_with (first | ((with_reducible refine gate_dst (N := 5) rfl ?_); refine box_event ?hg (N := 5) ?hd (cs := #[.int .i64 0, .int .i64 0, .int .i64 0, .int .i64 0]) (t := 33) ?hr ?_; (case hd => rfl); (case hg => rfl); (case hr => first | (go_simp; done) | (go_simp; rfl)); intro gb356 hg w15 hbox hb; replace HO_3 := Aside0.mk (Kd.R_below (Kd.R_elderB (by (with_reducible repeat (first | apply Kd.R_alloc | apply Kd.R_drewN | apply Kd.R_drew)); exact HO_3.out) gb356 (Nat.le_of_eq hg.symm)) hb); have BK356 := Aside0.mk (hbox); have GW356 := ngw0 hg HB; have GE356 := ngw0 hg HB; replace HB := Aside0.mk (bst0 HB hb); clear hb hbox hg; obtain ⟨hcz16_0, hcz16_1, hcz16_2, hcz16_3, hfz16_0, hfz16_1, hfz16_2, hfz16_3⟩ := bz4 BK356))
    replace HO_3 : Aside0 (Kd.R k33 33 ((((w15.setCell ⟨gb356, 0, none⟩ (.int .i64 (wrap64 ((wrap64 (Int.tdiv x10_1 27)) - 1)))).setCell ⟨gb356, 1, none⟩ (.int .i64 (wrap64 ((Int.tmod (wrap64 (Int.tdiv x10_1 9)) 3) - 1)))).setCell ⟨gb356, 2, none⟩ (.int .i64 (wrap64 ((Int.tmod (wrap64 (Int.tdiv x10_1 3)) 3) - 1)))).setCell ⟨gb356, 3, none⟩ (.int .i64 (wrap64 ((Int.tmod x10_1 3) - 1)))) w.heap.size (fun k_ => k_ ≠ gb356) u3 x3_1) := ⟨by (with_reducible repeat (first | apply Kd.R_alloc | apply Kd.R_drewN | apply Kd.R_drew)); exact Kd.R_mono (Kd.R_far (p := ⟨gb356, 3, none⟩) (Kd.R_far (p := ⟨gb356, 2, none⟩) (Kd.R_far (p := ⟨gb356, 1, none⟩) (Kd.R_far (p := ⟨gb356, 0, none⟩) (Kd.R_mono HO_3.out (fun k_ hk => (⟨hk, hk.2⟩ : _ ∧ k_ ≠ gb356))) (fun _ hk => hk.2) (.int .i64 (wrap64 ((wrap64 (Int.tdiv x10_1 27)) - 1)))) (fun _ hk => hk.2) (.int .i64 (wrap64 ((Int.tmod (wrap64 (Int.tdiv x10_1 9)) 3) - 1)))) (fun _ hk => hk.2) (.int .i64 (wrap64 ((Int.tmod (wrap64 (Int.tdiv x10_1 3)) 3) - 1)))) (fun _ hk => hk.2) (.int .i64 (wrap64 ((Int.tmod x10_1 3) - 1)))) (fun _ hk => hk.1.2)⟩
    replace BK356 : Aside0 (((((w15.setCell ⟨gb356, 0, none⟩ (.int .i64 (wrap64 ((wrap64 (Int.tdiv x10_1 27)) - 1)))).setCell ⟨gb356, 1, none⟩ (.int .i64 (wrap64 ((Int.tmod (wrap64 (Int.tdiv x10_1 9)) 3) - 1)))).setCell ⟨gb356, 2, none⟩ (.int .i64 (wrap64 ((Int.tmod (wrap64 (Int.tdiv x10_1 3)) 3) - 1)))).setCell ⟨gb356, 3, none⟩ (.int .i64 (wrap64 ((Int.tmod x10_1 3) - 1)))).heap[gb356]? = some (.cells #[.int .i64 (wrap64 ((wrap64 (Int.tdiv x10_1 27)) - 1)), .int .i64 (wrap64 ((Int.tmod (wrap64 (Int.tdiv x10_1 9)) 3) - 1)), .int .i64 (wrap64 ((Int.tmod (wrap64 (Int.tdiv x10_1 3)) 3) - 1)), .int .i64 (wrap64 ((Int.tmod x10_1 3) - 1))] 33 (0, 0))) := ⟨by (with_reducible repeat (first | refine blk_drewN ?_ _ | refine blk_drew ?_ | refine blk_alloc ?_ _)); refine blk_put (cs := #[.int .i64 (wrap64 ((wrap64 (Int.tdiv x10_1 27)) - 1)), .int .i64 (wrap64 ((Int.tmod (wrap64 (Int.tdiv x10_1 9)) 3) - 1)), .int .i64 (wrap64 ((Int.tmod (wrap64 (Int.tdiv x10_1 3)) 3) - 1)), .int .i64 0]) ?_ 3 _ rfl; (with_reducible repeat (first | refine blk_drewN ?_ _ | refine blk_drew ?_ | refine blk_alloc ?_ _)); refine blk_put (cs := #[.int .i64 (wrap64 ((wrap64 (Int.tdiv x10_1 27)) - 1)), .int .i64 (wrap64 ((Int.tmod (wrap64 (Int.tdiv x10_1 9)) 3) - 1)), .int .i64 0, .int .i64 0]) ?_ 2 _ rfl; (with_reducible repeat (first | refine blk_drewN ?_ _ | refine blk_drew ?_ | refine blk_alloc ?_ _)); refine blk_put (cs := #[.int .i64 (wrap64 ((wrap64 (Int.tdiv x10_1 27)) - 1)), .int .i64 0, .int .i64 0, .int .i64 0]) ?_ 1 _ rfl; (with_reducible repeat (first | refine blk_drewN ?_ _ | refine blk_drew ?_ | refine blk_alloc ?_ _)); refine blk_put (cs := #[.int .i64 0, .int .i64 0, .int .i64 0, .int .i64 0]) ?_ 0 _ rfl; (with_reducible repeat (first | refine blk_drewN ?_ _ | refine blk_drew ?_ | refine blk_alloc ?_ _)); exact BK356.out⟩
    replace HB : Aside0 (Below w.heap.size w ((((w15.setCell ⟨gb356, 0, none⟩ (.int .i64 (wrap64 ((wrap64 (Int.tdiv x10_1 27)) - 1)))).setCell ⟨gb356, 1, none⟩ (.int .i64 (wrap64 ((Int.tmod (wrap64 (Int.tdiv x10_1 9)) 3) - 1)))).setCell ⟨gb356, 2, none⟩ (.int .i64 (wrap64 ((Int.tmod (wrap64 (Int.tdiv x10_1 3)) 3) - 1)))).setCell ⟨gb356, 3, none⟩ (.int .i64 (wrap64 ((Int.tmod x10_1 3) - 1))))) := ⟨bbw1 HB GE356⟩
    generalize ((((w15.setCell ⟨gb356, 0, none⟩ (.int .i64 (wrap64 ((wrap64 (Int.tdiv x10_1 27)) - 1)))).setCell ⟨gb356, 1, none⟩ (.int .i64 (wrap64 ((Int.tmod (wrap64 (Int.tdiv x10_1 9)) 3) - 1)))).setCell ⟨gb356, 2, none⟩ (.int .i64 (wrap64 ((Int.tmod (wrap64 (Int.tdiv x10_1 3)) 3) - 1)))).setCell ⟨gb356, 3, none⟩ (.int .i64 (wrap64 ((Int.tmod x10_1 3) - 1)))) = w17 at HO_3 BK356 HB ⊢
    replace HO_3 := Aside0.mk (Kd.R_drew HO_3.out)
    replace BK356 := Aside0.mk (blk_drew BK356.out)
    replace HB := Aside0.mk (below_drew1 HB.out)
    refine start_ (n := 15) (S := fun w' => True) (ds := []) (bt 15 0) (by kernel_rfl) rfl rfl trivial (fun hHeld => ?_); refine with_tabW impl_pointMats.tab6 impl_pointMats.bits6 (fun HT_ HW_ => ?_)
    generalize w17.drew = w18 at HO_3 BK356 HB hHeld ⊢
    refine inv_at [0, 1, 2, 3, 4, 5, 6, 7, 8, 9, 10, 11, 12, 13, 14] (fun a0_ b a w' => ∃ (gb363 : Nat) (gb364 : Nat) (gb365 : Nat) (m9_ : Value) (m10_ : Value) (m11_ : Value), a = putSel a0_ b [(0, 28, .agg #[.int .i64 (wrap64 ((wrap64 (Int.tdiv x10_1 27)) - 1)), .int .i64 (wrap64 ((Int.tmod (wrap64 (Int.tdiv x10_1 9)) 3) - 1)), .int .i64 (wrap64 ((Int.tmod (wrap64 (Int.tdiv x10_1 3)) 3) - 1)), .int .i64 (wrap64 ((Int.tmod x10_1 3) - 1))]), (1, 29, .agg #[.int .i64 1, .int .i64 0]), (2, 30, .agg #[.int .i64 t357, .int .i64 t358]), (3, 31, .agg #[.int .i64 (wrap64 ((wrap64 (Int.tdiv x10_1 27)) - 1)), .int .i64 (wrap64 ((Int.tmod (wrap64 (Int.tdiv x10_1 9)) 3) - 1)), .int .i64 (wrap64 ((Int.tmod (wrap64 (Int.tdiv x10_1 3)) 3) - 1)), .int .i64 (wrap64 ((Int.tmod x10_1 3) - 1))]), (4, 32, .agg #[.int .i64 0, .int .i64 1]), (5, 33, .agg #[.int .i64 t359, .int .i64 t360]), (6, 34, .agg #[.int .i64 (wrap64 ((wrap64 (Int.tdiv x10_1 27)) - 1)), .int .i64 (wrap64 ((Int.tmod (wrap64 (Int.tdiv x10_1 9)) 3) - 1)), .int .i64 (wrap64 ((Int.tmod (wrap64 (Int.tdiv x10_1 3)) 3) - 1)), .int .i64 (wrap64 ((Int.tmod x10_1 3) - 1))]), (7, 35, .agg #[.int .i64 1, .int .i64 1]), (8, 36, .agg #[.int .i64 t361, .int .i64 t362]), (9, 6, m9_), (10, 7, m10_), (11, 8, m11_)] ∧ (Kd.R k33 33 w' w.heap.size (fun k_ => k_ ≠ gb356) u3 x3_1) ∧ (w'.heap[gb356]? = some (.cells #[.int .i64 (wrap64 ((wrap64 (Int.tdiv x10_1 27)) - 1)), .int .i64 (wrap64 ((Int.tmod (wrap64 (Int.tdiv x10_1 9)) 3) - 1)), .int .i64 (wrap64 ((Int.tmod (wrap64 (Int.tdiv x10_1 3)) 3) - 1)), .int .i64 (wrap64 ((Int.tmod x10_1 3) - 1))] 33 (0, 0))) ∧ (Below w.heap.size w w') ∧ (b 9 = true → b 10 = true → gb364 ≠ gb363) ∧ (b 9 = true → b 10 = true → gb363 ≠ gb364) ∧ (b 9 = true → b 11 = true → gb365 ≠ gb363) ∧ (b 9 = true → b 11 = true → gb363 ≠ gb365) ∧ (b 10 = true → b 11 = true → gb365 ≠ gb364) ∧ (b 10 = true → b 11 = true → gb364 ≠ gb365) ∧ (b 9 = true → b 12 = false → w'.heap[gb363]? = some (.cells #[.int .i64 0, .int .i64 0] 34 (0, 0))) ∧ (b 9 = true → w.heap.size ≤ gb363) ∧ (b 9 = true → w.heap.size ≤ gb363) ∧ (b 9 = true → gb356 ≠ gb363) ∧ (b 9 = true → gb363 ≠ gb356) ∧ (b 10 = true → b 13 = false → w'.heap[gb364]? = some (.cells #[.int .i64 0, .int .i64 0] 34 (0, 0))) ∧ (b 10 = true → w.heap.size ≤ gb364) ∧ (b 10 = true → w.heap.size ≤ gb364) ∧ (b 10 = true → gb356 ≠ gb364) ∧ (b 10 = true → gb364 ≠ gb356) ∧ (b 11 = true → b 14 = false → w'.heap[gb365]? = some (.cells #[.int .i64 0, .int .i64 0] 34 (0, 0))) ∧ (b 11 = true → w.heap.size ≤ gb365) ∧ (b 11 = true → w.heap.size ≤ gb365) ∧ (b 11 = true → gb356 ≠ gb365) ∧ (b 11 = true → gb365 ≠ gb356) ∧ (b 12 = true → w'.heap[gb363]? = some (.cells #[.int .i64 t357, .int .i64 t358] 34 (0, 0))) ∧ (b 13 = true → w'.heap[gb364]? = some (.cells #[.int .i64 t359, .int .i64 t360] 34 (0, 0))) ∧ (b 14 = true → w'.heap[gb365]? = some (.cells #[.int .i64 t361, .int .i64 t362] 34 (0, 0))) ∧ (b 9 = true → (m9_ : Value) = .pointer (some ⟨gb363, 0, none⟩)) ∧ (b 10 = true → (m10_ : Value) = .pointer (some ⟨gb364, 0, none⟩)) ∧ (b 11 = true → (m11_ : Value) = .pointer (some ⟨gb365, 0, none⟩))) HT_.out HW_.out (by kernel_rfl) (by kernel_rfl) ?_ ?_ ?_
    ·exact ⟨0, 0, 0, .bool false, .bool false, .bool false, by simp only [putSel, Bool.false_eq_true, if_false], HO_3.out, BK356.out, HB.out, fun h_ => absurd h_ (by decide), fun h_ => absurd h_ (by decide), fun h_ => absurd h_ (by decide), fun h_ => absurd h_ (by decide), fun h_ => absurd h_ (by decide), fun h_ => absurd h_ (by decide), fun h_ => absurd h_ (by decide), fun h_ => absurd h_ (by decide), fun h_ => absurd h_ (by decide), fun h_ => absurd h_ (by decide), fun h_ => absurd h_ (by decide), fun h_ => absurd h_ (by decide), fun h_ => absurd h_ (by decide), fun h_ => absurd h_ (by decide), fun h_ => absurd h_ (by decide), fun h_ => absurd h_ (by decide), fun h_ => absurd h_ (by decide), fun h_ => absurd h_ (by decide), fun h_ => absurd h_ (by decide), fun h_ => absurd h_ (by decide), fun h_ => absurd h_ (by decide), fun h_ => absurd h_ (by decide), fun h_ => absurd h_ (by decide), fun h_ => absurd h_ (by decide), fun h_ => absurd h_ (by decide), fun h_ => absurd h_ (by decide), fun h_ => absurd h_ (by decide)⟩
    ·skip
     clear BK356 HB HO_3
     refine steps_cons ?_ ?_
     ·rintro b a w' ⟨gb363, gb364, gb365, m9_, m10_, m11_, ha, Q_HO_3, Q_BK356, Q_HB, Q_NB364_363, Q_NB363_364, Q_NB365_363, Q_NB363_365, Q_NB365_364, Q_NB364_365, Q_BK363, Q_GW363, Q_GE363, Q_NB356_363, Q_NB363_356, Q_BK364, Q_GW364, Q_GE364, Q_NB356_364, Q_NB364_356, Q_BK365, Q_GW365, Q_GE365, Q_NB356_365, Q_NB365_356, Q_BK363_e12, Q_BK364_e13, Q_BK365_e14, Q_X9_, Q_X10_, Q_X11_⟩ hb_ hon hoff
      refine ⟨_, rfl, fun K hK => ?_⟩
      have e5 : a.tmps[5]? = some (.pointer (some ⟨gb356, 0, none⟩)) := by rw [ha]; exact (putSel_off rfl).trans rfl
      replace ha := Aside0.mk ha
      have HO_3 := Aside0.mk Q_HO_3
      have BK356 := Aside0.mk Q_BK356
      have HB := Aside0.mk Q_HB
      have hc0_ : w'.cell? ⟨gb356, 0, none⟩ = some (.int .i64 (wrap64 ((wrap64 (Int.tdiv x10_1 27)) - 1))) := bcl BK356 0
      have hc1_ : w'.cell? ⟨gb356, 1, none⟩ = some (.int .i64 (wrap64 ((Int.tmod (wrap64 (Int.tdiv x10_1 9)) 3) - 1))) := bcl BK356 1
      have hc2_ : w'.cell? ⟨gb356, 2, none⟩ = some (.int .i64 (wrap64 ((Int.tmod (wrap64 (Int.tdiv x10_1 3)) 3) - 1))) := bcl BK356 2
      have hc3_ : w'.cell? ⟨gb356, 3, none⟩ = some (.int .i64 (wrap64 ((Int.tmod x10_1 3) - 1))) := bcl BK356 3
      refine value_ (w1 := w') (v := .agg #[.int .i64 (wrap64 ((wrap64 (Int.tdiv x10_1 27)) - 1)), .int .i64 (wrap64 ((Int.tmod (wrap64 (Int.tdiv x10_1 9)) 3) - 1)), .int .i64 (wrap64 ((Int.tmod (wrap64 (Int.tdiv x10_1 3)) 3) - 1)), .int .i64 (wrap64 ((Int.tmod x10_1 3) - 1))]) (by rfl) rfl ?_ ?_
      ·go_simp
       (try simp only [i64_w])
       try rfl
      refine hK.out _ _ ⟨gb363, gb364, gb365, m9_, m10_, m11_, (by rw [ha.out]; exact putSel_upk 0 hb_ rfl rfl rfl), Q_HO_3, Q_BK356, Q_HB, Q_NB364_363, Q_NB363_364, Q_NB365_363, Q_NB363_365, Q_NB365_364, Q_NB364_365, Q_BK363, Q_GW363, Q_GE363, Q_NB356_363, Q_NB363_356, Q_BK364, Q_GW364, Q_GE364, Q_NB356_364, Q_NB364_356, Q_BK365, Q_GW365, Q_GE365, Q_NB356_365, Q_NB365_356, fun h0_ => absurd ((hoff 12 (by kernel_rfl)).symm.trans h0_) (by decide), fun h0_ => absurd ((hoff 13 (by kernel_rfl)).symm.trans h0_) (by decide), fun h0_ => absurd ((hoff 14 (by kernel_rfl)).symm.trans h0_) (by decide), Q_X9_, Q_X10_, Q_X11_⟩
     refine steps_cons ?_ ?_
     ·rintro b a w' ⟨gb363, gb364, gb365, m9_, m10_, m11_, ha, Q_HO_3, Q_BK356, Q_HB, Q_NB364_363, Q_NB363_364, Q_NB365_363, Q_NB363_365, Q_NB365_364, Q_NB364_365, Q_BK363, Q_GW363, Q_GE363, Q_NB356_363, Q_NB363_356, Q_BK364, Q_GW364, Q_GE364, Q_NB356_364, Q_NB364_356, Q_BK365, Q_GW365, Q_GE365, Q_NB356_365, Q_NB365_356, Q_BK363_e12, Q_BK364_e13, Q_BK365_e14, Q_X9_, Q_X10_, Q_X11_⟩ hb_ hon hoff
      refine ⟨_, rfl, fun K hK => ?_⟩
      replace ha := Aside0.mk ha
      have HO_3 := Aside0.mk Q_HO_3
      have BK356 := Aside0.mk Q_BK356
      have HB := Aside0.mk Q_HB
      refine value_ (w1 := w') (v := .agg #[.int .i64 1, .int .i64 0]) (by rfl) rfl ?_ ?_
      ·go_simp
       (try simp only [i64_w])
       try rfl
      refine hK.out _ _ ⟨gb363, gb364, gb365, m9_, m10_, m11_, (by rw [ha.out]; exact putSel_upk 1 hb_ rfl rfl rfl), Q_HO_3, Q_BK356, Q_HB, Q_NB364_363, Q_NB363_364, Q_NB365_363, Q_NB363_365, Q_NB365_364, Q_NB364_365, Q_BK363, Q_GW363, Q_GE363, Q_NB356_363, Q_NB363_356, Q_BK364, Q_GW364, Q_GE364, Q_NB356_364, Q_NB364_356, Q_BK365, Q_GW365, Q_GE365, Q_NB356_365, Q_NB365_356, fun h0_ => absurd ((hoff 12 (by kernel_rfl)).symm.trans h0_) (by decide), fun h0_ => absurd ((hoff 13 (by kernel_rfl)).symm.trans h0_) (by decide), fun h0_ => absurd ((hoff 14 (by kernel_rfl)).symm.trans h0_) (by decide), Q_X9_, Q_X10_, Q_X11_⟩
     refine steps_cons ?_ ?_
     ·rintro b a w' ⟨gb363, gb364, gb365, m9_, m10_, m11_, ha, Q_HO_3, Q_BK356, Q_HB, Q_NB364_363, Q_NB363_364, Q_NB365_363, Q_NB363_365, Q_NB365_364, Q_NB364_365, Q_BK363, Q_GW363, Q_GE363, Q_NB356_363, Q_NB363_356, Q_BK364, Q_GW364, Q_GE364, Q_NB356_364, Q_NB364_356, Q_BK365, Q_GW365, Q_GE365, Q_NB356_365, Q_NB365_356, Q_BK363_e12, Q_BK364_e13, Q_BK365_e14, Q_X9_, Q_X10_, Q_X11_⟩ hb_ hon hoff
      refine ⟨_, rfl, fun K hK => ?_⟩
      have e28 : a.tmps[28]? = some (.agg #[.int .i64 (wrap64 ((wrap64 (Int.tdiv x10_1 27)) - 1)), .int .i64 (wrap64 ((Int.tmod (wrap64 (Int.tdiv x10_1 9)) 3) - 1)), .int .i64 (wrap64 ((Int.tmod (wrap64 (Int.tdiv x10_1 3)) 3) - 1)), .int .i64 (wrap64 ((Int.tmod x10_1 3) - 1))]) := by rw [ha]; exact putSel_on (e := (0, 28, .agg #[.int .i64 (wrap64 ((wrap64 (Int.tdiv x10_1 27)) - 1)), .int .i64 (wrap64 ((Int.tmod (wrap64 (Int.tdiv x10_1 9)) 3) - 1)), .int .i64 (wrap64 ((Int.tmod (wrap64 (Int.tdiv x10_1 3)) 3) - 1)), .int .i64 (wrap64 ((Int.tmod x10_1 3) - 1))])) 0 rfl rfl (hon 0 (by kernel_rfl)) rfl
      have e29 : a.tmps[29]? = some (.agg #[.int .i64 1, .int .i64 0]) := by rw [ha]; exact putSel_on (e := (1, 29, .agg #[.int .i64 1, .int .i64 0])) 1 rfl rfl (hon 1 (by kernel_rfl)) rfl
      replace ha := Aside0.mk ha
      have HO_3 := Aside0.mk Q_HO_3
      have BK356 := Aside0.mk Q_BK356
      have HB := Aside0.mk Q_HB
      refine goes_ Try.func124 (by kernel_rfl) rfl #[.agg #[.int .i64 (wrap64 ((wrap64 (Int.tdiv x10_1 27)) - 1)), .int .i64 (wrap64 ((Int.tmod (wrap64 (Int.tdiv x10_1 9)) 3) - 1)), .int .i64 (wrap64 ((Int.tmod (wrap64 (Int.tdiv x10_1 3)) 3) - 1)), .int .i64 (wrap64 ((Int.tmod x10_1 3) - 1))], .agg #[.int .i64 1, .int .i64 0]] (by rfl) rfl rfl (by first | (simp only [List.map_toArray, List.map_cons, List.map_nil, Act.eval, Array.getD_eq_getD_getElem?, Option.getD_some, e28, e29]; done) | (simp only [List.map_toArray, List.map_cons, List.map_nil, Act.eval, Array.getD_eq_getD_getElem?, Option.getD_some, e28, e29]; rfl)) ?_
      with_reducible refine (impl_Mat_apply.calls (wrap64 ((wrap64 (Int.tdiv x10_1 27)) - 1)) (wrap64 ((Int.tmod (wrap64 (Int.tdiv x10_1 9)) 3) - 1)) (wrap64 ((Int.tmod (wrap64 (Int.tdiv x10_1 3)) 3) - 1)) (wrap64 ((Int.tmod x10_1 3) - 1)) 1 0 t357 t358 _ A5.out).mono ?_
      rintro e w19 ⟨rfl, hb⟩
      refine ⟨_, rfl, ?_⟩
      have n0_ := Aside0.mk (Kd.R_below (by (with_reducible repeat (first | apply Kd.R_alloc | apply Kd.R_drewN | apply Kd.R_drew)); exact HO_3.out) hb)
      have n1_ := Aside0.mk (bbl BK356 hb)
      have n2_ := Aside0.mk (bst1 HB GE356 hb)
      have z_BK363 := fun (h0_ : b 9 = true) (h1_ : b 12 = false) => (show w19.heap[gb363]? = some (.cells #[.int .i64 0, .int .i64 0] 34 (0, 0)) from by first | exact (blk_below (g := gb363) (o := .cells #[.int .i64 0, .int .i64 0] 34 (0, 0)) (by (with_reducible repeat (first | refine blk_drewN ?_ _ | refine blk_drew ?_ | refine blk_alloc ?_ _)); exact (Q_BK363 h0_ h1_)) hb))
      have z_BK364 := fun (h0_ : b 10 = true) (h1_ : b 13 = false) => (show w19.heap[gb364]? = some (.cells #[.int .i64 0, .int .i64 0] 34 (0, 0)) from by first | exact (blk_below (g := gb364) (o := .cells #[.int .i64 0, .int .i64 0] 34 (0, 0)) (by (with_reducible repeat (first | refine blk_drewN ?_ _ | refine blk_drew ?_ | refine blk_alloc ?_ _)); exact (Q_BK364 h0_ h1_)) hb))
      have z_BK365 := fun (h0_ : b 11 = true) (h1_ : b 14 = false) => (show w19.heap[gb365]? = some (.cells #[.int .i64 0, .int .i64 0] 34 (0, 0)) from by first | exact (blk_below (g := gb365) (o := .cells #[.int .i64 0, .int .i64 0] 34 (0, 0)) (by (with_reducible repeat (first | refine blk_drewN ?_ _ | refine blk_drew ?_ | refine blk_alloc ?_ _)); exact (Q_BK365 h0_ h1_)) hb))
      clear HO_3
      clear BK356
      clear HB
      have HO_3 := n0_
      have BK356 := n1_
      have HB := n2_
      clear n0_ n1_ n2_
      (try clear hb)
      (try clear hb2)
      (try clear hk)
      (try clear hi)
      refine hK.out _ _ ⟨gb363, gb364, gb365, m9_, m10_, m11_, (by rw [ha.out]; exact putSel_upk 2 hb_ rfl rfl rfl), (by (with_reducible repeat (first | apply Kd.R_alloc | apply Kd.R_drewN | apply Kd.R_drew)); exact HO_3.out), (bkp BK356), (bbw1 HB GE356), Q_NB364_363, Q_NB363_364, Q_NB365_363, Q_NB363_365, Q_NB365_364, Q_NB364_365, z_BK363, Q_GW363, Q_GE363, Q_NB356_363, Q_NB363_356, z_BK364, Q_GW364, Q_GE364, Q_NB356_364, Q_NB364_356, z_BK365, Q_GW365, Q_GE365, Q_NB356_365, Q_NB365_356, fun h0_ => absurd ((hoff 12 (by kernel_rfl)).symm.trans h0_) (by decide), fun h0_ => absurd ((hoff 13 (by kernel_rfl)).symm.trans h0_) (by decide), fun h0_ => absurd ((hoff 14 (by kernel_rfl)).symm.trans h0_) (by decide), Q_X9_, Q_X10_, Q_X11_⟩
     refine steps_cons ?_ ?_
     ·rintro b a w' ⟨gb363, gb364, gb365, m9_, m10_, m11_, ha, Q_HO_3, Q_BK356, Q_HB, Q_NB364_363, Q_NB363_364, Q_NB365_363, Q_NB363_365, Q_NB365_364, Q_NB364_365, Q_BK363, Q_GW363, Q_GE363, Q_NB356_363, Q_NB363_356, Q_BK364, Q_GW364, Q_GE364, Q_NB356_364, Q_NB364_356, Q_BK365, Q_GW365, Q_GE365, Q_NB356_365, Q_NB365_356, Q_BK363_e12, Q_BK364_e13, Q_BK365_e14, Q_X9_, Q_X10_, Q_X11_⟩ hb_ hon hoff
      refine ⟨_, rfl, fun K hK => ?_⟩
      have e5 : a.tmps[5]? = some (.pointer (some ⟨gb356, 0, none⟩)) := by rw [ha]; exact (putSel_off rfl).trans rfl
      replace ha := Aside0.mk ha
      have HO_3 := Aside0.mk Q_HO_3
      have BK356 := Aside0.mk Q_BK356
      have HB := Aside0.mk Q_HB
      have hc0_ : w'.cell? ⟨gb356, 0, none⟩ = some (.int .i64 (wrap64 ((wrap64 (Int.tdiv x10_1 27)) - 1))) := bcl BK356 0
      have hc1_ : w'.cell? ⟨gb356, 1, none⟩ = some (.int .i64 (wrap64 ((Int.tmod (wrap64 (Int.tdiv x10_1 9)) 3) - 1))) := bcl BK356 1
      have hc2_ : w'.cell? ⟨gb356, 2, none⟩ = some (.int .i64 (wrap64 ((Int.tmod (wrap64 (Int.tdiv x10_1 3)) 3) - 1))) := bcl BK356 2
      have hc3_ : w'.cell? ⟨gb356, 3, none⟩ = some (.int .i64 (wrap64 ((Int.tmod x10_1 3) - 1))) := bcl BK356 3
      refine value_ (w1 := w') (v := .agg #[.int .i64 (wrap64 ((wrap64 (Int.tdiv x10_1 27)) - 1)), .int .i64 (wrap64 ((Int.tmod (wrap64 (Int.tdiv x10_1 9)) 3) - 1)), .int .i64 (wrap64 ((Int.tmod (wrap64 (Int.tdiv x10_1 3)) 3) - 1)), .int .i64 (wrap64 ((Int.tmod x10_1 3) - 1))]) (by rfl) rfl ?_ ?_
      ·go_simp
       (try simp only [i64_w])
       try rfl
      refine hK.out _ _ ⟨gb363, gb364, gb365, m9_, m10_, m11_, (by rw [ha.out]; exact putSel_upk 3 hb_ rfl rfl rfl), Q_HO_3, Q_BK356, Q_HB, Q_NB364_363, Q_NB363_364, Q_NB365_363, Q_NB363_365, Q_NB365_364, Q_NB364_365, Q_BK363, Q_GW363, Q_GE363, Q_NB356_363, Q_NB363_356, Q_BK364, Q_GW364, Q_GE364, Q_NB356_364, Q_NB364_356, Q_BK365, Q_GW365, Q_GE365, Q_NB356_365, Q_NB365_356, fun h0_ => absurd ((hoff 12 (by kernel_rfl)).symm.trans h0_) (by decide), fun h0_ => absurd ((hoff 13 (by kernel_rfl)).symm.trans h0_) (by decide), fun h0_ => absurd ((hoff 14 (by kernel_rfl)).symm.trans h0_) (by decide), Q_X9_, Q_X10_, Q_X11_⟩
     refine steps_cons ?_ ?_
     ·rintro b a w' ⟨gb363, gb364, gb365, m9_, m10_, m11_, ha, Q_HO_3, Q_BK356, Q_HB, Q_NB364_363, Q_NB363_364, Q_NB365_363, Q_NB363_365, Q_NB365_364, Q_NB364_365, Q_BK363, Q_GW363, Q_GE363, Q_NB356_363, Q_NB363_356, Q_BK364, Q_GW364, Q_GE364, Q_NB356_364, Q_NB364_356, Q_BK365, Q_GW365, Q_GE365, Q_NB356_365, Q_NB365_356, Q_BK363_e12, Q_BK364_e13, Q_BK365_e14, Q_X9_, Q_X10_, Q_X11_⟩ hb_ hon hoff
      refine ⟨_, rfl, fun K hK => ?_⟩
      replace ha := Aside0.mk ha
      have HO_3 := Aside0.mk Q_HO_3
      have BK356 := Aside0.mk Q_BK356
      have HB := Aside0.mk Q_HB
      refine value_ (w1 := w') (v := .agg #[.int .i64 0, .int .i64 1]) (by rfl) rfl ?_ ?_
      ·go_simp
       (try simp only [i64_w])
       try rfl
      refine hK.out _ _ ⟨gb363, gb364, gb365, m9_, m10_, m11_, (by rw [ha.out]; exact putSel_upk 4 hb_ rfl rfl rfl), Q_HO_3, Q_BK356, Q_HB, Q_NB364_363, Q_NB363_364, Q_NB365_363, Q_NB363_365, Q_NB365_364, Q_NB364_365, Q_BK363, Q_GW363, Q_GE363, Q_NB356_363, Q_NB363_356, Q_BK364, Q_GW364, Q_GE364, Q_NB356_364, Q_NB364_356, Q_BK365, Q_GW365, Q_GE365, Q_NB356_365, Q_NB365_356, fun h0_ => absurd ((hoff 12 (by kernel_rfl)).symm.trans h0_) (by decide), fun h0_ => absurd ((hoff 13 (by kernel_rfl)).symm.trans h0_) (by decide), fun h0_ => absurd ((hoff 14 (by kernel_rfl)).symm.trans h0_) (by decide), Q_X9_, Q_X10_, Q_X11_⟩
     refine steps_cons ?_ ?_
     ·rintro b a w' ⟨gb363, gb364, gb365, m9_, m10_, m11_, ha, Q_HO_3, Q_BK356, Q_HB, Q_NB364_363, Q_NB363_364, Q_NB365_363, Q_NB363_365, Q_NB365_364, Q_NB364_365, Q_BK363, Q_GW363, Q_GE363, Q_NB356_363, Q_NB363_356, Q_BK364, Q_GW364, Q_GE364, Q_NB356_364, Q_NB364_356, Q_BK365, Q_GW365, Q_GE365, Q_NB356_365, Q_NB365_356, Q_BK363_e12, Q_BK364_e13, Q_BK365_e14, Q_X9_, Q_X10_, Q_X11_⟩ hb_ hon hoff
      refine ⟨_, rfl, fun K hK => ?_⟩
      have e31 : a.tmps[31]? = some (.agg #[.int .i64 (wrap64 ((wrap64 (Int.tdiv x10_1 27)) - 1)), .int .i64 (wrap64 ((Int.tmod (wrap64 (Int.tdiv x10_1 9)) 3) - 1)), .int .i64 (wrap64 ((Int.tmod (wrap64 (Int.tdiv x10_1 3)) 3) - 1)), .int .i64 (wrap64 ((Int.tmod x10_1 3) - 1))]) := by rw [ha]; exact putSel_on (e := (3, 31, .agg #[.int .i64 (wrap64 ((wrap64 (Int.tdiv x10_1 27)) - 1)), .int .i64 (wrap64 ((Int.tmod (wrap64 (Int.tdiv x10_1 9)) 3) - 1)), .int .i64 (wrap64 ((Int.tmod (wrap64 (Int.tdiv x10_1 3)) 3) - 1)), .int .i64 (wrap64 ((Int.tmod x10_1 3) - 1))])) 3 rfl rfl (hon 3 (by kernel_rfl)) rfl
      have e32 : a.tmps[32]? = some (.agg #[.int .i64 0, .int .i64 1]) := by rw [ha]; exact putSel_on (e := (4, 32, .agg #[.int .i64 0, .int .i64 1])) 4 rfl rfl (hon 4 (by kernel_rfl)) rfl
      replace ha := Aside0.mk ha
      have HO_3 := Aside0.mk Q_HO_3
      have BK356 := Aside0.mk Q_BK356
      have HB := Aside0.mk Q_HB
      refine goes_ Try.func124 (by kernel_rfl) rfl #[.agg #[.int .i64 (wrap64 ((wrap64 (Int.tdiv x10_1 27)) - 1)), .int .i64 (wrap64 ((Int.tmod (wrap64 (Int.tdiv x10_1 9)) 3) - 1)), .int .i64 (wrap64 ((Int.tmod (wrap64 (Int.tdiv x10_1 3)) 3) - 1)), .int .i64 (wrap64 ((Int.tmod x10_1 3) - 1))], .agg #[.int .i64 0, .int .i64 1]] (by rfl) rfl rfl (by first | (simp only [List.map_toArray, List.map_cons, List.map_nil, Act.eval, Array.getD_eq_getD_getElem?, Option.getD_some, e31, e32]; done) | (simp only [List.map_toArray, List.map_cons, List.map_nil, Act.eval, Array.getD_eq_getD_getElem?, Option.getD_some, e31, e32]; rfl)) ?_
      with_reducible refine (impl_Mat_apply.calls (wrap64 ((wrap64 (Int.tdiv x10_1 27)) - 1)) (wrap64 ((Int.tmod (wrap64 (Int.tdiv x10_1 9)) 3) - 1)) (wrap64 ((Int.tmod (wrap64 (Int.tdiv x10_1 3)) 3) - 1)) (wrap64 ((Int.tmod x10_1 3) - 1)) 0 1 t359 t360 _ A6.out).mono ?_
      rintro e w21 ⟨rfl, hb⟩
      refine ⟨_, rfl, ?_⟩
      have n0_ := Aside0.mk (Kd.R_below (by (with_reducible repeat (first | apply Kd.R_alloc | apply Kd.R_drewN | apply Kd.R_drew)); exact HO_3.out) hb)
      have n1_ := Aside0.mk (bbl BK356 hb)
      have n2_ := Aside0.mk (bst1 HB GE356 hb)
      have z_BK363 := fun (h0_ : b 9 = true) (h1_ : b 12 = false) => (show w21.heap[gb363]? = some (.cells #[.int .i64 0, .int .i64 0] 34 (0, 0)) from by first | exact (blk_below (g := gb363) (o := .cells #[.int .i64 0, .int .i64 0] 34 (0, 0)) (by (with_reducible repeat (first | refine blk_drewN ?_ _ | refine blk_drew ?_ | refine blk_alloc ?_ _)); exact (Q_BK363 h0_ h1_)) hb))
      have z_BK364 := fun (h0_ : b 10 = true) (h1_ : b 13 = false) => (show w21.heap[gb364]? = some (.cells #[.int .i64 0, .int .i64 0] 34 (0, 0)) from by first | exact (blk_below (g := gb364) (o := .cells #[.int .i64 0, .int .i64 0] 34 (0, 0)) (by (with_reducible repeat (first | refine blk_drewN ?_ _ | refine blk_drew ?_ | refine blk_alloc ?_ _)); exact (Q_BK364 h0_ h1_)) hb))
      have z_BK365 := fun (h0_ : b 11 = true) (h1_ : b 14 = false) => (show w21.heap[gb365]? = some (.cells #[.int .i64 0, .int .i64 0] 34 (0, 0)) from by first | exact (blk_below (g := gb365) (o := .cells #[.int .i64 0, .int .i64 0] 34 (0, 0)) (by (with_reducible repeat (first | refine blk_drewN ?_ _ | refine blk_drew ?_ | refine blk_alloc ?_ _)); exact (Q_BK365 h0_ h1_)) hb))
      clear HO_3
      clear BK356
      clear HB
      have HO_3 := n0_
      have BK356 := n1_
      have HB := n2_
      clear n0_ n1_ n2_
      (try clear hb)
      (try clear hb2)
      (try clear hk)
      (try clear hi)
      refine hK.out _ _ ⟨gb363, gb364, gb365, m9_, m10_, m11_, (by rw [ha.out]; exact putSel_upk 5 hb_ rfl rfl rfl), (by (with_reducible repeat (first | apply Kd.R_alloc | apply Kd.R_drewN | apply Kd.R_drew)); exact HO_3.out), (bkp BK356), (bbw1 HB GE356), Q_NB364_363, Q_NB363_364, Q_NB365_363, Q_NB363_365, Q_NB365_364, Q_NB364_365, z_BK363, Q_GW363, Q_GE363, Q_NB356_363, Q_NB363_356, z_BK364, Q_GW364, Q_GE364, Q_NB356_364, Q_NB364_356, z_BK365, Q_GW365, Q_GE365, Q_NB356_365, Q_NB365_356, fun h0_ => absurd ((hoff 12 (by kernel_rfl)).symm.trans h0_) (by decide), fun h0_ => absurd ((hoff 13 (by kernel_rfl)).symm.trans h0_) (by decide), fun h0_ => absurd ((hoff 14 (by kernel_rfl)).symm.trans h0_) (by decide), Q_X9_, Q_X10_, Q_X11_⟩
     refine steps_cons ?_ ?_
     ·rintro b a w' ⟨gb363, gb364, gb365, m9_, m10_, m11_, ha, Q_HO_3, Q_BK356, Q_HB, Q_NB364_363, Q_NB363_364, Q_NB365_363, Q_NB363_365, Q_NB365_364, Q_NB364_365, Q_BK363, Q_GW363, Q_GE363, Q_NB356_363, Q_NB363_356, Q_BK364, Q_GW364, Q_GE364, Q_NB356_364, Q_NB364_356, Q_BK365, Q_GW365, Q_GE365, Q_NB356_365, Q_NB365_356, Q_BK363_e12, Q_BK364_e13, Q_BK365_e14, Q_X9_, Q_X10_, Q_X11_⟩ hb_ hon hoff
      refine ⟨_, rfl, fun K hK => ?_⟩
      have e5 : a.tmps[5]? = some (.pointer (some ⟨gb356, 0, none⟩)) := by rw [ha]; exact (putSel_off rfl).trans rfl
      replace ha := Aside0.mk ha
      have HO_3 := Aside0.mk Q_HO_3
      have BK356 := Aside0.mk Q_BK356
      have HB := Aside0.mk Q_HB
      have hc0_ : w'.cell? ⟨gb356, 0, none⟩ = some (.int .i64 (wrap64 ((wrap64 (Int.tdiv x10_1 27)) - 1))) := bcl BK356 0
      have hc1_ : w'.cell? ⟨gb356, 1, none⟩ = some (.int .i64 (wrap64 ((Int.tmod (wrap64 (Int.tdiv x10_1 9)) 3) - 1))) := bcl BK356 1
      have hc2_ : w'.cell? ⟨gb356, 2, none⟩ = some (.int .i64 (wrap64 ((Int.tmod (wrap64 (Int.tdiv x10_1 3)) 3) - 1))) := bcl BK356 2
      have hc3_ : w'.cell? ⟨gb356, 3, none⟩ = some (.int .i64 (wrap64 ((Int.tmod x10_1 3) - 1))) := bcl BK356 3
      refine value_ (w1 := w') (v := .agg #[.int .i64 (wrap64 ((wrap64 (Int.tdiv x10_1 27)) - 1)), .int .i64 (wrap64 ((Int.tmod (wrap64 (Int.tdiv x10_1 9)) 3) - 1)), .int .i64 (wrap64 ((Int.tmod (wrap64 (Int.tdiv x10_1 3)) 3) - 1)), .int .i64 (wrap64 ((Int.tmod x10_1 3) - 1))]) (by rfl) rfl ?_ ?_
      ·go_simp
       (try simp only [i64_w])
       try rfl
      refine hK.out _ _ ⟨gb363, gb364, gb365, m9_, m10_, m11_, (by rw [ha.out]; exact putSel_upk 6 hb_ rfl rfl rfl), Q_HO_3, Q_BK356, Q_HB, Q_NB364_363, Q_NB363_364, Q_NB365_363, Q_NB363_365, Q_NB365_364, Q_NB364_365, Q_BK363, Q_GW363, Q_GE363, Q_NB356_363, Q_NB363_356, Q_BK364, Q_GW364, Q_GE364, Q_NB356_364, Q_NB364_356, Q_BK365, Q_GW365, Q_GE365, Q_NB356_365, Q_NB365_356, fun h0_ => absurd ((hoff 12 (by kernel_rfl)).symm.trans h0_) (by decide), fun h0_ => absurd ((hoff 13 (by kernel_rfl)).symm.trans h0_) (by decide), fun h0_ => absurd ((hoff 14 (by kernel_rfl)).symm.trans h0_) (by decide), Q_X9_, Q_X10_, Q_X11_⟩
     refine steps_cons ?_ ?_
     ·rintro b a w' ⟨gb363, gb364, gb365, m9_, m10_, m11_, ha, Q_HO_3, Q_BK356, Q_HB, Q_NB364_363, Q_NB363_364, Q_NB365_363, Q_NB363_365, Q_NB365_364, Q_NB364_365, Q_BK363, Q_GW363, Q_GE363, Q_NB356_363, Q_NB363_356, Q_BK364, Q_GW364, Q_GE364, Q_NB356_364, Q_NB364_356, Q_BK365, Q_GW365, Q_GE365, Q_NB356_365, Q_NB365_356, Q_BK363_e12, Q_BK364_e13, Q_BK365_e14, Q_X9_, Q_X10_, Q_X11_⟩ hb_ hon hoff
      refine ⟨_, rfl, fun K hK => ?_⟩
      replace ha := Aside0.mk ha
      have HO_3 := Aside0.mk Q_HO_3
      have BK356 := Aside0.mk Q_BK356
      have HB := Aside0.mk Q_HB
      refine value_ (w1 := w') (v := .agg #[.int .i64 1, .int .i64 1]) (by rfl) rfl ?_ ?_
      ·go_simp
       (try simp only [i64_w])
       try rfl
      refine hK.out _ _ ⟨gb363, gb364, gb365, m9_, m10_, m11_, (by rw [ha.out]; exact putSel_upk 7 hb_ rfl rfl rfl), Q_HO_3, Q_BK356, Q_HB, Q_NB364_363, Q_NB363_364, Q_NB365_363, Q_NB363_365, Q_NB365_364, Q_NB364_365, Q_BK363, Q_GW363, Q_GE363, Q_NB356_363, Q_NB363_356, Q_BK364, Q_GW364, Q_GE364, Q_NB356_364, Q_NB364_356, Q_BK365, Q_GW365, Q_GE365, Q_NB356_365, Q_NB365_356, fun h0_ => absurd ((hoff 12 (by kernel_rfl)).symm.trans h0_) (by decide), fun h0_ => absurd ((hoff 13 (by kernel_rfl)).symm.trans h0_) (by decide), fun h0_ => absurd ((hoff 14 (by kernel_rfl)).symm.trans h0_) (by decide), Q_X9_, Q_X10_, Q_X11_⟩
     refine steps_cons ?_ ?_
     ·rintro b a w' ⟨gb363, gb364, gb365, m9_, m10_, m11_, ha, Q_HO_3, Q_BK356, Q_HB, Q_NB364_363, Q_NB363_364, Q_NB365_363, Q_NB363_365, Q_NB365_364, Q_NB364_365, Q_BK363, Q_GW363, Q_GE363, Q_NB356_363, Q_NB363_356, Q_BK364, Q_GW364, Q_GE364, Q_NB356_364, Q_NB364_356, Q_BK365, Q_GW365, Q_GE365, Q_NB356_365, Q_NB365_356, Q_BK363_e12, Q_BK364_e13, Q_BK365_e14, Q_X9_, Q_X10_, Q_X11_⟩ hb_ hon hoff
      refine ⟨_, rfl, fun K hK => ?_⟩
      have e34 : a.tmps[34]? = some (.agg #[.int .i64 (wrap64 ((wrap64 (Int.tdiv x10_1 27)) - 1)), .int .i64 (wrap64 ((Int.tmod (wrap64 (Int.tdiv x10_1 9)) 3) - 1)), .int .i64 (wrap64 ((Int.tmod (wrap64 (Int.tdiv x10_1 3)) 3) - 1)), .int .i64 (wrap64 ((Int.tmod x10_1 3) - 1))]) := by rw [ha]; exact putSel_on (e := (6, 34, .agg #[.int .i64 (wrap64 ((wrap64 (Int.tdiv x10_1 27)) - 1)), .int .i64 (wrap64 ((Int.tmod (wrap64 (Int.tdiv x10_1 9)) 3) - 1)), .int .i64 (wrap64 ((Int.tmod (wrap64 (Int.tdiv x10_1 3)) 3) - 1)), .int .i64 (wrap64 ((Int.tmod x10_1 3) - 1))])) 6 rfl rfl (hon 6 (by kernel_rfl)) rfl
      have e35 : a.tmps[35]? = some (.agg #[.int .i64 1, .int .i64 1]) := by rw [ha]; exact putSel_on (e := (7, 35, .agg #[.int .i64 1, .int .i64 1])) 7 rfl rfl (hon 7 (by kernel_rfl)) rfl
      replace ha := Aside0.mk ha
      have HO_3 := Aside0.mk Q_HO_3
      have BK356 := Aside0.mk Q_BK356
      have HB := Aside0.mk Q_HB
      refine goes_ Try.func124 (by kernel_rfl) rfl #[.agg #[.int .i64 (wrap64 ((wrap64 (Int.tdiv x10_1 27)) - 1)), .int .i64 (wrap64 ((Int.tmod (wrap64 (Int.tdiv x10_1 9)) 3) - 1)), .int .i64 (wrap64 ((Int.tmod (wrap64 (Int.tdiv x10_1 3)) 3) - 1)), .int .i64 (wrap64 ((Int.tmod x10_1 3) - 1))], .agg #[.int .i64 1, .int .i64 1]] (by rfl) rfl rfl (by first | (simp only [List.map_toArray, List.map_cons, List.map_nil, Act.eval, Array.getD_eq_getD_getElem?, Option.getD_some, e34, e35]; done) | (simp only [List.map_toArray, List.map_cons, List.map_nil, Act.eval, Array.getD_eq_getD_getElem?, Option.getD_some, e34, e35]; rfl)) ?_
      with_reducible refine (impl_Mat_apply.calls (wrap64 ((wrap64 (Int.tdiv x10_1 27)) - 1)) (wrap64 ((Int.tmod (wrap64 (Int.tdiv x10_1 9)) 3) - 1)) (wrap64 ((Int.tmod (wrap64 (Int.tdiv x10_1 3)) 3) - 1)) (wrap64 ((Int.tmod x10_1 3) - 1)) 1 1 t361 t362 _ A7.out).mono ?_
      rintro e w22 ⟨rfl, hb⟩
      refine ⟨_, rfl, ?_⟩
      have n0_ := Aside0.mk (Kd.R_below (by (with_reducible repeat (first | apply Kd.R_alloc | apply Kd.R_drewN | apply Kd.R_drew)); exact HO_3.out) hb)
      have n1_ := Aside0.mk (bbl BK356 hb)
      have n2_ := Aside0.mk (bst1 HB GE356 hb)
      have z_BK363 := fun (h0_ : b 9 = true) (h1_ : b 12 = false) => (show w22.heap[gb363]? = some (.cells #[.int .i64 0, .int .i64 0] 34 (0, 0)) from by first | exact (blk_below (g := gb363) (o := .cells #[.int .i64 0, .int .i64 0] 34 (0, 0)) (by (with_reducible repeat (first | refine blk_drewN ?_ _ | refine blk_drew ?_ | refine blk_alloc ?_ _)); exact (Q_BK363 h0_ h1_)) hb))
      have z_BK364 := fun (h0_ : b 10 = true) (h1_ : b 13 = false) => (show w22.heap[gb364]? = some (.cells #[.int .i64 0, .int .i64 0] 34 (0, 0)) from by first | exact (blk_below (g := gb364) (o := .cells #[.int .i64 0, .int .i64 0] 34 (0, 0)) (by (with_reducible repeat (first | refine blk_drewN ?_ _ | refine blk_drew ?_ | refine blk_alloc ?_ _)); exact (Q_BK364 h0_ h1_)) hb))
      have z_BK365 := fun (h0_ : b 11 = true) (h1_ : b 14 = false) => (show w22.heap[gb365]? = some (.cells #[.int .i64 0, .int .i64 0] 34 (0, 0)) from by first | exact (blk_below (g := gb365) (o := .cells #[.int .i64 0, .int .i64 0] 34 (0, 0)) (by (with_reducible repeat (first | refine blk_drewN ?_ _ | refine blk_drew ?_ | refine blk_alloc ?_ _)); exact (Q_BK365 h0_ h1_)) hb))
      clear HO_3
      clear BK356
      clear HB
      have HO_3 := n0_
      have BK356 := n1_
      have HB := n2_
      clear n0_ n1_ n2_
      (try clear hb)
      (try clear hb2)
      (try clear hk)
      (try clear hi)
      refine hK.out _ _ ⟨gb363, gb364, gb365, m9_, m10_, m11_, (by rw [ha.out]; exact putSel_upk 8 hb_ rfl rfl rfl), (by (with_reducible repeat (first | apply Kd.R_alloc | apply Kd.R_drewN | apply Kd.R_drew)); exact HO_3.out), (bkp BK356), (bbw1 HB GE356), Q_NB364_363, Q_NB363_364, Q_NB365_363, Q_NB363_365, Q_NB365_364, Q_NB364_365, z_BK363, Q_GW363, Q_GE363, Q_NB356_363, Q_NB363_356, z_BK364, Q_GW364, Q_GE364, Q_NB356_364, Q_NB364_356, z_BK365, Q_GW365, Q_GE365, Q_NB356_365, Q_NB365_356, fun h0_ => absurd ((hoff 12 (by kernel_rfl)).symm.trans h0_) (by decide), fun h0_ => absurd ((hoff 13 (by kernel_rfl)).symm.trans h0_) (by decide), fun h0_ => absurd ((hoff 14 (by kernel_rfl)).symm.trans h0_) (by decide), Q_X9_, Q_X10_, Q_X11_⟩
     refine steps_cons ?_ ?_
     ·rintro b a w' ⟨gb363, gb364, gb365, m9_, m10_, m11_, ha, Q_HO_3, Q_BK356, Q_HB, Q_NB364_363, Q_NB363_364, Q_NB365_363, Q_NB363_365, Q_NB365_364, Q_NB364_365, Q_BK363, Q_GW363, Q_GE363, Q_NB356_363, Q_NB363_356, Q_BK364, Q_GW364, Q_GE364, Q_NB356_364, Q_NB364_356, Q_BK365, Q_GW365, Q_GE365, Q_NB356_365, Q_NB365_356, Q_BK363_e12, Q_BK364_e13, Q_BK365_e14, Q_X9_, Q_X10_, Q_X11_⟩ hb_ hon hoff
      refine ⟨_, rfl, fun K hK => ?_⟩
      replace ha := Aside0.mk ha
      have HO_3 := Aside0.mk Q_HO_3
      have BK356 := Aside0.mk Q_BK356
      have HB := Aside0.mk Q_HB
      refine box_step ?hg (N := 6) ?hd (cs := #[.int .i64 0, .int .i64 0]) (t := 34) ?hr ?_; (case hd => rfl); (case hg => rfl); (case hr => first | (go_simp; done) | (go_simp; rfl))
      intro gb363 hg w19 hbox hb
      have n0_ := Aside0.mk (Kd.R_below (by (with_reducible repeat (first | apply Kd.R_alloc | apply Kd.R_drewN | apply Kd.R_drew)); exact HO_3.out) hb)
      have n1_ := Aside0.mk (bbl BK356 hb)
      have n2_ := Aside0.mk (bst1 HB GE356 hb)
      have n3_ := Aside0.mk (hbox)
      have n4_ := ngw1 hg HB GE356
      have n5_ := ngw1 hg HB GE356
      have n6_ := nlt hg BK356
      have n7_ := nsy (nlt hg BK356)
      have z_NB364_363 := fun (h0_ : up b 9 9 = true) (h1_ : up b 9 10 = true) => (show gb364 ≠ gb363 from ((by rw [hg]; exact Nat.ne_of_lt (by cases hq_ : b 13 with | false => exact blk_lt (g := gb364) (Q_BK364 h1_ hq_) | true => exact blk_lt (g := gb364) (Q_BK364_e13 hq_)) : gb364 ≠ gb363)))
      have z_NB363_364 := fun (h0_ : up b 9 9 = true) (h1_ : up b 9 10 = true) => (show gb363 ≠ gb364 from ((by rw [hg]; exact Nat.ne_of_gt (by cases hq_ : b 13 with | false => exact blk_lt (g := gb364) (Q_BK364 h1_ hq_) | true => exact blk_lt (g := gb364) (Q_BK364_e13 hq_)) : gb363 ≠ gb364)))
      have z_NB365_363 := fun (h0_ : up b 9 9 = true) (h1_ : up b 9 11 = true) => (show gb365 ≠ gb363 from ((by rw [hg]; exact Nat.ne_of_lt (by cases hq_ : b 14 with | false => exact blk_lt (g := gb365) (Q_BK365 h1_ hq_) | true => exact blk_lt (g := gb365) (Q_BK365_e14 hq_)) : gb365 ≠ gb363)))
      have z_NB363_365 := fun (h0_ : up b 9 9 = true) (h1_ : up b 9 11 = true) => (show gb363 ≠ gb365 from ((by rw [hg]; exact Nat.ne_of_gt (by cases hq_ : b 14 with | false => exact blk_lt (g := gb365) (Q_BK365 h1_ hq_) | true => exact blk_lt (g := gb365) (Q_BK365_e14 hq_)) : gb363 ≠ gb365)))
      have z_BK364 := fun (h0_ : b 10 = true) (h1_ : b 13 = false) => (show w19.heap[gb364]? = some (.cells #[.int .i64 0, .int .i64 0] 34 (0, 0)) from by first | exact (blk_below (g := gb364) (o := .cells #[.int .i64 0, .int .i64 0] 34 (0, 0)) (by (with_reducible repeat (first | refine blk_drewN ?_ _ | refine blk_drew ?_ | refine blk_alloc ?_ _)); exact (Q_BK364 h0_ h1_)) hb))
      have z_BK365 := fun (h0_ : b 11 = true) (h1_ : b 14 = false) => (show w19.heap[gb365]? = some (.cells #[.int .i64 0, .int .i64 0] 34 (0, 0)) from by first | exact (blk_below (g := gb365) (o := .cells #[.int .i64 0, .int .i64 0] 34 (0, 0)) (by (with_reducible repeat (first | refine blk_drewN ?_ _ | refine blk_drew ?_ | refine blk_alloc ?_ _)); exact (Q_BK365 h0_ h1_)) hb))
      clear HO_3
      clear BK356
      clear HB
      have HO_3 := n0_
      have BK356 := n1_
      have HB := n2_
      have BK363 := n3_
      have GW363 := n4_
      have GE363 := n5_
      have NB356_363 := n6_
      have NB363_356 := n7_
      clear n0_ n1_ n2_ n3_ n4_ n5_ n6_ n7_
      clear hb hbox hg
      refine hK.out _ _ ⟨gb363, gb364, gb365, (.pointer (some ⟨gb363, 0, none⟩)), m10_, m11_, (by rw [ha.out]; exact putSel_upk 9 hb_ rfl rfl rfl), (by (with_reducible repeat (first | apply Kd.R_alloc | apply Kd.R_drewN | apply Kd.R_drew)); exact HO_3.out), (bkp BK356), (bbw2 HB GE356 GE363), @z_NB364_363, @z_NB363_364, @z_NB365_363, @z_NB363_365, Q_NB365_364, Q_NB364_365, fun _ _ => (bkp BK363), fun _ => GW363.out, fun _ => GE363.out, fun _ => NB356_363.out, fun _ => NB363_356.out, z_BK364, Q_GW364, Q_GE364, Q_NB356_364, Q_NB364_356, z_BK365, Q_GW365, Q_GE365, Q_NB356_365, Q_NB365_356, fun h0_ => absurd ((hoff 12 (by kernel_rfl)).symm.trans h0_) (by decide), fun h0_ => absurd ((hoff 13 (by kernel_rfl)).symm.trans h0_) (by decide), fun h0_ => absurd ((hoff 14 (by kernel_rfl)).symm.trans h0_) (by decide), fun _ => rfl, Q_X10_, Q_X11_⟩
     refine steps_cons ?_ ?_
     ·rintro b a w' ⟨gb363, gb364, gb365, m9_, m10_, m11_, ha, Q_HO_3, Q_BK356, Q_HB, Q_NB364_363, Q_NB363_364, Q_NB365_363, Q_NB363_365, Q_NB365_364, Q_NB364_365, Q_BK363, Q_GW363, Q_GE363, Q_NB356_363, Q_NB363_356, Q_BK364, Q_GW364, Q_GE364, Q_NB356_364, Q_NB364_356, Q_BK365, Q_GW365, Q_GE365, Q_NB356_365, Q_NB365_356, Q_BK363_e12, Q_BK364_e13, Q_BK365_e14, Q_X9_, Q_X10_, Q_X11_⟩ hb_ hon hoff
      refine ⟨_, rfl, fun K hK => ?_⟩
      replace ha := Aside0.mk ha
      have HO_3 := Aside0.mk Q_HO_3
      have BK356 := Aside0.mk Q_BK356
      have HB := Aside0.mk Q_HB
      refine box_step ?hg (N := 7) ?hd (cs := #[.int .i64 0, .int .i64 0]) (t := 34) ?hr ?_; (case hd => rfl); (case hg => rfl); (case hr => first | (go_simp; done) | (go_simp; rfl))
      intro gb364 hg w19 hbox hb
      have n0_ := Aside0.mk (Kd.R_below (by (with_reducible repeat (first | apply Kd.R_alloc | apply Kd.R_drewN | apply Kd.R_drew)); exact HO_3.out) hb)
      have n1_ := Aside0.mk (bbl BK356 hb)
      have n2_ := Aside0.mk (bst1 HB GE356 hb)
      have n3_ := Aside0.mk (hbox)
      have n4_ := ngw1 hg HB GE356
      have n5_ := ngw1 hg HB GE356
      have n6_ := nlt hg BK356
      have n7_ := nsy (nlt hg BK356)
      have z_NB364_363 := fun (h0_ : up b 10 9 = true) (h1_ : up b 10 10 = true) => (show gb364 ≠ gb363 from ((by rw [hg]; exact Nat.ne_of_gt (by cases hq_ : b 12 with | false => exact blk_lt (g := gb363) (Q_BK363 h0_ hq_) | true => exact blk_lt (g := gb363) (Q_BK363_e12 hq_)) : gb364 ≠ gb363)))
      have z_NB363_364 := fun (h0_ : up b 10 9 = true) (h1_ : up b 10 10 = true) => (show gb363 ≠ gb364 from ((by rw [hg]; exact Nat.ne_of_lt (by cases hq_ : b 12 with | false => exact blk_lt (g := gb363) (Q_BK363 h0_ hq_) | true => exact blk_lt (g := gb363) (Q_BK363_e12 hq_)) : gb363 ≠ gb364)))
      have z_NB365_364 := fun (h0_ : up b 10 10 = true) (h1_ : up b 10 11 = true) => (show gb365 ≠ gb364 from ((by rw [hg]; exact Nat.ne_of_lt (by cases hq_ : b 14 with | false => exact blk_lt (g := gb365) (Q_BK365 h1_ hq_) | true => exact blk_lt (g := gb365) (Q_BK365_e14 hq_)) : gb365 ≠ gb364)))
      have z_NB364_365 := fun (h0_ : up b 10 10 = true) (h1_ : up b 10 11 = true) => (show gb364 ≠ gb365 from ((by rw [hg]; exact Nat.ne_of_gt (by cases hq_ : b 14 with | false => exact blk_lt (g := gb365) (Q_BK365 h1_ hq_) | true => exact blk_lt (g := gb365) (Q_BK365_e14 hq_)) : gb364 ≠ gb365)))
      have z_BK363 := fun (h0_ : b 9 = true) (h1_ : b 12 = false) => (show w19.heap[gb363]? = some (.cells #[.int .i64 0, .int .i64 0] 34 (0, 0)) from by first | exact (blk_below (g := gb363) (o := .cells #[.int .i64 0, .int .i64 0] 34 (0, 0)) (by (with_reducible repeat (first | refine blk_drewN ?_ _ | refine blk_drew ?_ | refine blk_alloc ?_ _)); exact (Q_BK363 h0_ h1_)) hb))
      have z_BK365 := fun (h0_ : b 11 = true) (h1_ : b 14 = false) => (show w19.heap[gb365]? = some (.cells #[.int .i64 0, .int .i64 0] 34 (0, 0)) from by first | exact (blk_below (g := gb365) (o := .cells #[.int .i64 0, .int .i64 0] 34 (0, 0)) (by (with_reducible repeat (first | refine blk_drewN ?_ _ | refine blk_drew ?_ | refine blk_alloc ?_ _)); exact (Q_BK365 h0_ h1_)) hb))
      clear HO_3
      clear BK356
      clear HB
      have HO_3 := n0_
      have BK356 := n1_
      have HB := n2_
      have BK364 := n3_
      have GW364 := n4_
      have GE364 := n5_
      have NB356_364 := n6_
      have NB364_356 := n7_
      clear n0_ n1_ n2_ n3_ n4_ n5_ n6_ n7_
      clear hb hbox hg
      refine hK.out _ _ ⟨gb363, gb364, gb365, m9_, (.pointer (some ⟨gb364, 0, none⟩)), m11_, (by rw [ha.out]; exact putSel_upk 10 hb_ rfl rfl rfl), (by (with_reducible repeat (first | apply Kd.R_alloc | apply Kd.R_drewN | apply Kd.R_drew)); exact HO_3.out), (bkp BK356), (bbw2 HB GE356 GE364), @z_NB364_363, @z_NB363_364, Q_NB365_363, Q_NB363_365, @z_NB365_364, @z_NB364_365, z_BK363, Q_GW363, Q_GE363, Q_NB356_363, Q_NB363_356, fun _ _ => (bkp BK364), fun _ => GW364.out, fun _ => GE364.out, fun _ => NB356_364.out, fun _ => NB364_356.out, z_BK365, Q_GW365, Q_GE365, Q_NB356_365, Q_NB365_356, fun h0_ => absurd ((hoff 12 (by kernel_rfl)).symm.trans h0_) (by decide), fun h0_ => absurd ((hoff 13 (by kernel_rfl)).symm.trans h0_) (by decide), fun h0_ => absurd ((hoff 14 (by kernel_rfl)).symm.trans h0_) (by decide), Q_X9_, fun _ => rfl, Q_X11_⟩
     refine steps_cons ?_ ?_
     ·rintro b a w' ⟨gb363, gb364, gb365, m9_, m10_, m11_, ha, Q_HO_3, Q_BK356, Q_HB, Q_NB364_363, Q_NB363_364, Q_NB365_363, Q_NB363_365, Q_NB365_364, Q_NB364_365, Q_BK363, Q_GW363, Q_GE363, Q_NB356_363, Q_NB363_356, Q_BK364, Q_GW364, Q_GE364, Q_NB356_364, Q_NB364_356, Q_BK365, Q_GW365, Q_GE365, Q_NB356_365, Q_NB365_356, Q_BK363_e12, Q_BK364_e13, Q_BK365_e14, Q_X9_, Q_X10_, Q_X11_⟩ hb_ hon hoff
      refine ⟨_, rfl, fun K hK => ?_⟩
      replace ha := Aside0.mk ha
      have HO_3 := Aside0.mk Q_HO_3
      have BK356 := Aside0.mk Q_BK356
      have HB := Aside0.mk Q_HB
      refine box_step ?hg (N := 8) ?hd (cs := #[.int .i64 0, .int .i64 0]) (t := 34) ?hr ?_; (case hd => rfl); (case hg => rfl); (case hr => first | (go_simp; done) | (go_simp; rfl))
      intro gb365 hg w19 hbox hb
      have n0_ := Aside0.mk (Kd.R_below (by (with_reducible repeat (first | apply Kd.R_alloc | apply Kd.R_drewN | apply Kd.R_drew)); exact HO_3.out) hb)
      have n1_ := Aside0.mk (bbl BK356 hb)
      have n2_ := Aside0.mk (bst1 HB GE356 hb)
      have n3_ := Aside0.mk (hbox)
      have n4_ := ngw1 hg HB GE356
      have n5_ := ngw1 hg HB GE356
      have n6_ := nlt hg BK356
      have n7_ := nsy (nlt hg BK356)
      have z_NB365_363 := fun (h0_ : up b 11 9 = true) (h1_ : up b 11 11 = true) => (show gb365 ≠ gb363 from ((by rw [hg]; exact Nat.ne_of_gt (by cases hq_ : b 12 with | false => exact blk_lt (g := gb363) (Q_BK363 h0_ hq_) | true => exact blk_lt (g := gb363) (Q_BK363_e12 hq_)) : gb365 ≠ gb363)))
      have z_NB363_365 := fun (h0_ : up b 11 9 = true) (h1_ : up b 11 11 = true) => (show gb363 ≠ gb365 from ((by rw [hg]; exact Nat.ne_of_lt (by cases hq_ : b 12 with | false => exact blk_lt (g := gb363) (Q_BK363 h0_ hq_) | true => exact blk_lt (g := gb363) (Q_BK363_e12 hq_)) : gb363 ≠ gb365)))
      have z_NB365_364 := fun (h0_ : up b 11 10 = true) (h1_ : up b 11 11 = true) => (show gb365 ≠ gb364 from ((by rw [hg]; exact Nat.ne_of_gt (by cases hq_ : b 13 with | false => exact blk_lt (g := gb364) (Q_BK364 h0_ hq_) | true => exact blk_lt (g := gb364) (Q_BK364_e13 hq_)) : gb365 ≠ gb364)))
      have z_NB364_365 := fun (h0_ : up b 11 10 = true) (h1_ : up b 11 11 = true) => (show gb364 ≠ gb365 from ((by rw [hg]; exact Nat.ne_of_lt (by cases hq_ : b 13 with | false => exact blk_lt (g := gb364) (Q_BK364 h0_ hq_) | true => exact blk_lt (g := gb364) (Q_BK364_e13 hq_)) : gb364 ≠ gb365)))
      have z_BK363 := fun (h0_ : b 9 = true) (h1_ : b 12 = false) => (show w19.heap[gb363]? = some (.cells #[.int .i64 0, .int .i64 0] 34 (0, 0)) from by first | exact (blk_below (g := gb363) (o := .cells #[.int .i64 0, .int .i64 0] 34 (0, 0)) (by (with_reducible repeat (first | refine blk_drewN ?_ _ | refine blk_drew ?_ | refine blk_alloc ?_ _)); exact (Q_BK363 h0_ h1_)) hb))
      have z_BK364 := fun (h0_ : b 10 = true) (h1_ : b 13 = false) => (show w19.heap[gb364]? = some (.cells #[.int .i64 0, .int .i64 0] 34 (0, 0)) from by first | exact (blk_below (g := gb364) (o := .cells #[.int .i64 0, .int .i64 0] 34 (0, 0)) (by (with_reducible repeat (first | refine blk_drewN ?_ _ | refine blk_drew ?_ | refine blk_alloc ?_ _)); exact (Q_BK364 h0_ h1_)) hb))
      clear HO_3
      clear BK356
      clear HB
      have HO_3 := n0_
      have BK356 := n1_
      have HB := n2_
      have BK365 := n3_
      have GW365 := n4_
      have GE365 := n5_
      have NB356_365 := n6_
      have NB365_356 := n7_
      clear n0_ n1_ n2_ n3_ n4_ n5_ n6_ n7_
      clear hb hbox hg
      refine hK.out _ _ ⟨gb363, gb364, gb365, m9_, m10_, (.pointer (some ⟨gb365, 0, none⟩)), (by rw [ha.out]; exact putSel_upk 11 hb_ rfl rfl rfl), (by (with_reducible repeat (first | apply Kd.R_alloc | apply Kd.R_drewN | apply Kd.R_drew)); exact HO_3.out), (bkp BK356), (bbw2 HB GE356 GE365), Q_NB364_363, Q_NB363_364, @z_NB365_363, @z_NB363_365, @z_NB365_364, @z_NB364_365, z_BK363, Q_GW363, Q_GE363, Q_NB356_363, Q_NB363_356, z_BK364, Q_GW364, Q_GE364, Q_NB356_364, Q_NB364_356, fun _ _ => (bkp BK365), fun _ => GW365.out, fun _ => GE365.out, fun _ => NB356_365.out, fun _ => NB365_356.out, fun h0_ => absurd ((hoff 12 (by kernel_rfl)).symm.trans h0_) (by decide), fun h0_ => absurd ((hoff 13 (by kernel_rfl)).symm.trans h0_) (by decide), fun h0_ => absurd ((hoff 14 (by kernel_rfl)).symm.trans h0_) (by decide), Q_X9_, Q_X10_, fun _ => rfl⟩
     refine steps_cons ?_ ?_
     ·rintro b a w' ⟨gb363, gb364, gb365, m9_, m10_, m11_, ha, Q_HO_3, Q_BK356, Q_HB, Q_NB364_363, Q_NB363_364, Q_NB365_363, Q_NB363_365, Q_NB365_364, Q_NB364_365, Q_BK363, Q_GW363, Q_GE363, Q_NB356_363, Q_NB363_356, Q_BK364, Q_GW364, Q_GE364, Q_NB356_364, Q_NB364_356, Q_BK365, Q_GW365, Q_GE365, Q_NB356_365, Q_NB365_356, Q_BK363_e12, Q_BK364_e13, Q_BK365_e14, Q_X9_, Q_X10_, Q_X11_⟩ hb_ hon hoff
      refine ⟨_, rfl, fun K hK => ?_⟩
      have e6 : a.tmps[6]? = some (m9_) := by rw [ha]; exact putSel_on (e := (9, 6, m9_)) 9 rfl rfl (hon 9 (by kernel_rfl)) rfl
      rw [Q_X9_ (hon 9 (by kernel_rfl))] at e6
      have e30 : a.tmps[30]? = some (.agg #[.int .i64 t357, .int .i64 t358]) := by rw [ha]; exact putSel_on (e := (2, 30, .agg #[.int .i64 t357, .int .i64 t358])) 2 rfl rfl (hon 2 (by kernel_rfl)) rfl
      replace ha := Aside0.mk ha
      have HO_3 := Aside0.mk Q_HO_3
      have BK356 := Aside0.mk Q_BK356
      have HB := Aside0.mk Q_HB
      have NB364_363 := Aside0.mk (Q_NB364_363 (hon 9 (by kernel_rfl)) (hon 10 (by kernel_rfl)))
      have NB363_364 := Aside0.mk (Q_NB363_364 (hon 9 (by kernel_rfl)) (hon 10 (by kernel_rfl)))
      have NB365_363 := Aside0.mk (Q_NB365_363 (hon 9 (by kernel_rfl)) (hon 11 (by kernel_rfl)))
      have NB363_365 := Aside0.mk (Q_NB363_365 (hon 9 (by kernel_rfl)) (hon 11 (by kernel_rfl)))
      have NB365_364 := Aside0.mk (Q_NB365_364 (hon 10 (by kernel_rfl)) (hon 11 (by kernel_rfl)))
      have NB364_365 := Aside0.mk (Q_NB364_365 (hon 10 (by kernel_rfl)) (hon 11 (by kernel_rfl)))
      have BK363 := Aside0.mk (Q_BK363 (hon 9 (by kernel_rfl)) hb_)
      have GW363 := Aside0.mk (Q_GW363 (hon 9 (by kernel_rfl)))
      have GE363 := Aside0.mk (Q_GE363 (hon 9 (by kernel_rfl)))
      have NB356_363 := Aside0.mk (Q_NB356_363 (hon 9 (by kernel_rfl)))
      have NB363_356 := Aside0.mk (Q_NB363_356 (hon 9 (by kernel_rfl)))
      have BK364 := Aside0.mk (Q_BK364 (hon 10 (by kernel_rfl)) (hoff 13 (by kernel_rfl)))
      have GW364 := Aside0.mk (Q_GW364 (hon 10 (by kernel_rfl)))
      have GE364 := Aside0.mk (Q_GE364 (hon 10 (by kernel_rfl)))
      have NB356_364 := Aside0.mk (Q_NB356_364 (hon 10 (by kernel_rfl)))
      have NB364_356 := Aside0.mk (Q_NB364_356 (hon 10 (by kernel_rfl)))
      have BK365 := Aside0.mk (Q_BK365 (hon 11 (by kernel_rfl)) (hoff 14 (by kernel_rfl)))
      have GW365 := Aside0.mk (Q_GW365 (hon 11 (by kernel_rfl)))
      have GE365 := Aside0.mk (Q_GE365 (hon 11 (by kernel_rfl)))
      have NB356_365 := Aside0.mk (Q_NB356_365 (hon 11 (by kernel_rfl)))
      have NB365_356 := Aside0.mk (Q_NB365_356 (hon 11 (by kernel_rfl)))
      have hs26 : w'.cell? ⟨gb363, 0, none⟩ = some (.int .i64 0) := bcl BK363 0
      have hfs26 := blk_frozen BK363.out 0
      have hns26_0 := NB356_363.out
      have hns26_2 := NB364_363.out
      have hns26_3 := NB365_363.out
      have hms26_0 := NB363_356.out
      have hms26_2 := NB363_364.out
      have hms26_3 := NB363_365.out
      have hs27 : w'.cell? ⟨gb363, 1, none⟩ = some (.int .i64 0) := bcl BK363 1
      have hfs27 := blk_frozen BK363.out 1
      have hns27_0 := NB356_363.out
      have hns27_2 := NB364_363.out
      have hns27_3 := NB365_363.out
      have hms27_0 := NB363_356.out
      have hms27_2 := NB363_364.out
      have hms27_3 := NB363_365.out
      refine skip_ (w1 := ?_) (by rfl) rfl ?_ ?_
      rotate_left
      ·go_simp
       rfl
      refine hK.out _ _ ⟨gb363, gb364, gb365, m9_, m10_, m11_, (by rw [ha.out]; exact putSel_none (v := undef) rfl), (by (with_reducible repeat (first | apply Kd.R_alloc | apply Kd.R_drewN | apply Kd.R_drew)); exact Kd.R_mono (Kd.R_far (p := ⟨gb363, 1, none⟩) (Kd.R_far (p := ⟨gb363, 0, none⟩) (Kd.R_types HO_3.out BK363.out (by decide)) (fun _ hk => hk.2) (.int .i64 t357)) (fun _ hk => hk.2) (.int .i64 t358)) (fun _ hk => hk.1)), (by (with_reducible repeat (first | refine blk_drewN ?_ _ | refine blk_drew ?_ | refine blk_alloc ?_ _)); refine blk_far ?_ NB356_363.out _; (with_reducible repeat (first | refine blk_drewN ?_ _ | refine blk_drew ?_ | refine blk_alloc ?_ _)); refine blk_far ?_ NB356_363.out _; (with_reducible repeat (first | refine blk_drewN ?_ _ | refine blk_drew ?_ | refine blk_alloc ?_ _)); exact BK356.out), (bbw4 HB GE356 GE363 GE364 GE365), fun _ _ => NB364_363.out, fun _ _ => NB363_364.out, fun _ _ => NB365_363.out, fun _ _ => NB363_365.out, fun _ _ => NB365_364.out, fun _ _ => NB364_365.out, fun _ h1_ => absurd ((up_self b 12).symm.trans h1_) (by decide), fun _ => GW363.out, fun _ => GE363.out, fun _ => NB356_363.out, fun _ => NB363_356.out, fun _ _ => (by (with_reducible repeat (first | refine blk_drewN ?_ _ | refine blk_drew ?_ | refine blk_alloc ?_ _)); refine blk_far ?_ NB364_363.out _; (with_reducible repeat (first | refine blk_drewN ?_ _ | refine blk_drew ?_ | refine blk_alloc ?_ _)); refine blk_far ?_ NB364_363.out _; (with_reducible repeat (first | refine blk_drewN ?_ _ | refine blk_drew ?_ | refine blk_alloc ?_ _)); exact BK364.out), fun _ => GW364.out, fun _ => GE364.out, fun _ => NB356_364.out, fun _ => NB364_356.out, fun _ _ => (by (with_reducible repeat (first | refine blk_drewN ?_ _ | refine blk_drew ?_ | refine blk_alloc ?_ _)); refine blk_far ?_ NB365_363.out _; (with_reducible repeat (first | refine blk_drewN ?_ _ | refine blk_drew ?_ | refine blk_alloc ?_ _)); refine blk_far ?_ NB365_363.out _; (with_reducible repeat (first | refine blk_drewN ?_ _ | refine blk_drew ?_ | refine blk_alloc ?_ _)); exact BK365.out), fun _ => GW365.out, fun _ => GE365.out, fun _ => NB356_365.out, fun _ => NB365_356.out, fun _ => (by (with_reducible repeat (first | refine blk_drewN ?_ _ | refine blk_drew ?_ | refine blk_alloc ?_ _)); refine blk_put (cs := #[.int .i64 t357, .int .i64 0]) ?_ 1 _ rfl; (with_reducible repeat (first | refine blk_drewN ?_ _ | refine blk_drew ?_ | refine blk_alloc ?_ _)); refine blk_put (cs := #[.int .i64 0, .int .i64 0]) ?_ 0 _ rfl; (with_reducible repeat (first | refine blk_drewN ?_ _ | refine blk_drew ?_ | refine blk_alloc ?_ _)); exact BK363.out), fun h0_ => absurd ((hoff 13 (by kernel_rfl)).symm.trans h0_) (by decide), fun h0_ => absurd ((hoff 14 (by kernel_rfl)).symm.trans h0_) (by decide), Q_X9_, Q_X10_, Q_X11_⟩
     refine steps_cons ?_ ?_
     ·rintro b a w' ⟨gb363, gb364, gb365, m9_, m10_, m11_, ha, Q_HO_3, Q_BK356, Q_HB, Q_NB364_363, Q_NB363_364, Q_NB365_363, Q_NB363_365, Q_NB365_364, Q_NB364_365, Q_BK363, Q_GW363, Q_GE363, Q_NB356_363, Q_NB363_356, Q_BK364, Q_GW364, Q_GE364, Q_NB356_364, Q_NB364_356, Q_BK365, Q_GW365, Q_GE365, Q_NB356_365, Q_NB365_356, Q_BK363_e12, Q_BK364_e13, Q_BK365_e14, Q_X9_, Q_X10_, Q_X11_⟩ hb_ hon hoff
      refine ⟨_, rfl, fun K hK => ?_⟩
      have e7 : a.tmps[7]? = some (m10_) := by rw [ha]; exact putSel_on (e := (10, 7, m10_)) 10 rfl rfl (hon 10 (by kernel_rfl)) rfl
      rw [Q_X10_ (hon 10 (by kernel_rfl))] at e7
      have e33 : a.tmps[33]? = some (.agg #[.int .i64 t359, .int .i64 t360]) := by rw [ha]; exact putSel_on (e := (5, 33, .agg #[.int .i64 t359, .int .i64 t360])) 5 rfl rfl (hon 5 (by kernel_rfl)) rfl
      replace ha := Aside0.mk ha
      have HO_3 := Aside0.mk Q_HO_3
      have BK356 := Aside0.mk Q_BK356
      have HB := Aside0.mk Q_HB
      have NB364_363 := Aside0.mk (Q_NB364_363 (hon 9 (by kernel_rfl)) (hon 10 (by kernel_rfl)))
      have NB363_364 := Aside0.mk (Q_NB363_364 (hon 9 (by kernel_rfl)) (hon 10 (by kernel_rfl)))
      have NB365_363 := Aside0.mk (Q_NB365_363 (hon 9 (by kernel_rfl)) (hon 11 (by kernel_rfl)))
      have NB363_365 := Aside0.mk (Q_NB363_365 (hon 9 (by kernel_rfl)) (hon 11 (by kernel_rfl)))
      have NB365_364 := Aside0.mk (Q_NB365_364 (hon 10 (by kernel_rfl)) (hon 11 (by kernel_rfl)))
      have NB364_365 := Aside0.mk (Q_NB364_365 (hon 10 (by kernel_rfl)) (hon 11 (by kernel_rfl)))
      have GW363 := Aside0.mk (Q_GW363 (hon 9 (by kernel_rfl)))
      have GE363 := Aside0.mk (Q_GE363 (hon 9 (by kernel_rfl)))
      have NB356_363 := Aside0.mk (Q_NB356_363 (hon 9 (by kernel_rfl)))
      have NB363_356 := Aside0.mk (Q_NB363_356 (hon 9 (by kernel_rfl)))
      have BK364 := Aside0.mk (Q_BK364 (hon 10 (by kernel_rfl)) hb_)
      have GW364 := Aside0.mk (Q_GW364 (hon 10 (by kernel_rfl)))
      have GE364 := Aside0.mk (Q_GE364 (hon 10 (by kernel_rfl)))
      have NB356_364 := Aside0.mk (Q_NB356_364 (hon 10 (by kernel_rfl)))
      have NB364_356 := Aside0.mk (Q_NB364_356 (hon 10 (by kernel_rfl)))
      have BK365 := Aside0.mk (Q_BK365 (hon 11 (by kernel_rfl)) (hoff 14 (by kernel_rfl)))
      have GW365 := Aside0.mk (Q_GW365 (hon 11 (by kernel_rfl)))
      have GE365 := Aside0.mk (Q_GE365 (hon 11 (by kernel_rfl)))
      have NB356_365 := Aside0.mk (Q_NB356_365 (hon 11 (by kernel_rfl)))
      have NB365_356 := Aside0.mk (Q_NB365_356 (hon 11 (by kernel_rfl)))
      have BK363 := Aside0.mk (Q_BK363_e12 (hon 12 (by kernel_rfl)))
      have hs28 : w'.cell? ⟨gb364, 0, none⟩ = some (.int .i64 0) := bcl BK364 0
      have hfs28 := blk_frozen BK364.out 0
      have hns28_0 := NB356_364.out
      have hns28_1 := NB363_364.out
      have hns28_3 := NB365_364.out
      have hms28_0 := NB364_356.out
      have hms28_1 := NB364_363.out
      have hms28_3 := NB364_365.out
      have hs29 : w'.cell? ⟨gb364, 1, none⟩ = some (.int .i64 0) := bcl BK364 1
      have hfs29 := blk_frozen BK364.out 1
      have hns29_0 := NB356_364.out
      have hns29_1 := NB363_364.out
      have hns29_3 := NB365_364.out
      have hms29_0 := NB364_356.out
      have hms29_1 := NB364_363.out
      have hms29_3 := NB364_365.out
      refine skip_ (w1 := ?_) (by rfl) rfl ?_ ?_
      rotate_left
      ·go_simp
       rfl
      refine hK.out _ _ ⟨gb363, gb364, gb365, m9_, m10_, m11_, (by rw [ha.out]; exact putSel_none (v := undef) rfl), (by (with_reducible repeat (first | apply Kd.R_alloc | apply Kd.R_drewN | apply Kd.R_drew)); exact Kd.R_mono (Kd.R_far (p := ⟨gb364, 1, none⟩) (Kd.R_far (p := ⟨gb364, 0, none⟩) (Kd.R_types HO_3.out BK364.out (by decide)) (fun _ hk => hk.2) (.int .i64 t359)) (fun _ hk => hk.2) (.int .i64 t360)) (fun _ hk => hk.1)), (by (with_reducible repeat (first | refine blk_drewN ?_ _ | refine blk_drew ?_ | refine blk_alloc ?_ _)); refine blk_far ?_ NB356_364.out _; (with_reducible repeat (first | refine blk_drewN ?_ _ | refine blk_drew ?_ | refine blk_alloc ?_ _)); refine blk_far ?_ NB356_364.out _; (with_reducible repeat (first | refine blk_drewN ?_ _ | refine blk_drew ?_ | refine blk_alloc ?_ _)); exact BK356.out), (bbw4 HB GE356 GE363 GE364 GE365), fun _ _ => NB364_363.out, fun _ _ => NB363_364.out, fun _ _ => NB365_363.out, fun _ _ => NB363_365.out, fun _ _ => NB365_364.out, fun _ _ => NB364_365.out, fun _ h1_ => absurd ((hon 12 (by kernel_rfl)).symm.trans h1_) (by decide), fun _ => GW363.out, fun _ => GE363.out, fun _ => NB356_363.out, fun _ => NB363_356.out, fun _ h1_ => absurd ((up_self b 13).symm.trans h1_) (by decide), fun _ => GW364.out, fun _ => GE364.out, fun _ => NB356_364.out, fun _ => NB364_356.out, fun _ _ => (by (with_reducible repeat (first | refine blk_drewN ?_ _ | refine blk_drew ?_ | refine blk_alloc ?_ _)); refine blk_far ?_ NB365_364.out _; (with_reducible repeat (first | refine blk_drewN ?_ _ | refine blk_drew ?_ | refine blk_alloc ?_ _)); refine blk_far ?_ NB365_364.out _; (with_reducible repeat (first | refine blk_drewN ?_ _ | refine blk_drew ?_ | refine blk_alloc ?_ _)); exact BK365.out), fun _ => GW365.out, fun _ => GE365.out, fun _ => NB356_365.out, fun _ => NB365_356.out, fun _ => (by (with_reducible repeat (first | refine blk_drewN ?_ _ | refine blk_drew ?_ | refine blk_alloc ?_ _)); refine blk_far ?_ NB363_364.out _; (with_reducible repeat (first | refine blk_drewN ?_ _ | refine blk_drew ?_ | refine blk_alloc ?_ _)); refine blk_far ?_ NB363_364.out _; (with_reducible repeat (first | refine blk_drewN ?_ _ | refine blk_drew ?_ | refine blk_alloc ?_ _)); exact BK363.out), fun _ => (by (with_reducible repeat (first | refine blk_drewN ?_ _ | refine blk_drew ?_ | refine blk_alloc ?_ _)); refine blk_put (cs := #[.int .i64 t359, .int .i64 0]) ?_ 1 _ rfl; (with_reducible repeat (first | refine blk_drewN ?_ _ | refine blk_drew ?_ | refine blk_alloc ?_ _)); refine blk_put (cs := #[.int .i64 0, .int .i64 0]) ?_ 0 _ rfl; (with_reducible repeat (first | refine blk_drewN ?_ _ | refine blk_drew ?_ | refine blk_alloc ?_ _)); exact BK364.out), fun h0_ => absurd ((hoff 14 (by kernel_rfl)).symm.trans h0_) (by decide), Q_X9_, Q_X10_, Q_X11_⟩
     refine steps_cons ?_ ?_
     ·rintro b a w' ⟨gb363, gb364, gb365, m9_, m10_, m11_, ha, Q_HO_3, Q_BK356, Q_HB, Q_NB364_363, Q_NB363_364, Q_NB365_363, Q_NB363_365, Q_NB365_364, Q_NB364_365, Q_BK363, Q_GW363, Q_GE363, Q_NB356_363, Q_NB363_356, Q_BK364, Q_GW364, Q_GE364, Q_NB356_364, Q_NB364_356, Q_BK365, Q_GW365, Q_GE365, Q_NB356_365, Q_NB365_356, Q_BK363_e12, Q_BK364_e13, Q_BK365_e14, Q_X9_, Q_X10_, Q_X11_⟩ hb_ hon hoff
      refine ⟨_, rfl, fun K hK => ?_⟩
      have e8 : a.tmps[8]? = some (m11_) := by rw [ha]; exact putSel_on (e := (11, 8, m11_)) 11 rfl rfl (hon 11 (by kernel_rfl)) rfl
      rw [Q_X11_ (hon 11 (by kernel_rfl))] at e8
      have e36 : a.tmps[36]? = some (.agg #[.int .i64 t361, .int .i64 t362]) := by rw [ha]; exact putSel_on (e := (8, 36, .agg #[.int .i64 t361, .int .i64 t362])) 8 rfl rfl (hon 8 (by kernel_rfl)) rfl
      replace ha := Aside0.mk ha
      have HO_3 := Aside0.mk Q_HO_3
      have BK356 := Aside0.mk Q_BK356
      have HB := Aside0.mk Q_HB
      have NB364_363 := Aside0.mk (Q_NB364_363 (hon 9 (by kernel_rfl)) (hon 10 (by kernel_rfl)))
      have NB363_364 := Aside0.mk (Q_NB363_364 (hon 9 (by kernel_rfl)) (hon 10 (by kernel_rfl)))
      have NB365_363 := Aside0.mk (Q_NB365_363 (hon 9 (by kernel_rfl)) (hon 11 (by kernel_rfl)))
      have NB363_365 := Aside0.mk (Q_NB363_365 (hon 9 (by kernel_rfl)) (hon 11 (by kernel_rfl)))
      have NB365_364 := Aside0.mk (Q_NB365_364 (hon 10 (by kernel_rfl)) (hon 11 (by kernel_rfl)))
      have NB364_365 := Aside0.mk (Q_NB364_365 (hon 10 (by kernel_rfl)) (hon 11 (by kernel_rfl)))
      have GW363 := Aside0.mk (Q_GW363 (hon 9 (by kernel_rfl)))
      have GE363 := Aside0.mk (Q_GE363 (hon 9 (by kernel_rfl)))
      have NB356_363 := Aside0.mk (Q_NB356_363 (hon 9 (by kernel_rfl)))
      have NB363_356 := Aside0.mk (Q_NB363_356 (hon 9 (by kernel_rfl)))
      have GW364 := Aside0.mk (Q_GW364 (hon 10 (by kernel_rfl)))
      have GE364 := Aside0.mk (Q_GE364 (hon 10 (by kernel_rfl)))
      have NB356_364 := Aside0.mk (Q_NB356_364 (hon 10 (by kernel_rfl)))
      have NB364_356 := Aside0.mk (Q_NB364_356 (hon 10 (by kernel_rfl)))
      have BK365 := Aside0.mk (Q_BK365 (hon 11 (by kernel_rfl)) hb_)
      have GW365 := Aside0.mk (Q_GW365 (hon 11 (by kernel_rfl)))
      have GE365 := Aside0.mk (Q_GE365 (hon 11 (by kernel_rfl)))
      have NB356_365 := Aside0.mk (Q_NB356_365 (hon 11 (by kernel_rfl)))
      have NB365_356 := Aside0.mk (Q_NB365_356 (hon 11 (by kernel_rfl)))
      have BK363 := Aside0.mk (Q_BK363_e12 (hon 12 (by kernel_rfl)))
      have BK364 := Aside0.mk (Q_BK364_e13 (hon 13 (by kernel_rfl)))
      have hs30 : w'.cell? ⟨gb365, 0, none⟩ = some (.int .i64 0) := bcl BK365 0
      have hfs30 := blk_frozen BK365.out 0
      have hns30_0 := NB356_365.out
      have hns30_1 := NB363_365.out
      have hns30_2 := NB364_365.out
      have hms30_0 := NB365_356.out
      have hms30_1 := NB365_363.out
      have hms30_2 := NB365_364.out
      have hs31 : w'.cell? ⟨gb365, 1, none⟩ = some (.int .i64 0) := bcl BK365 1
      have hfs31 := blk_frozen BK365.out 1
      have hns31_0 := NB356_365.out
      have hns31_1 := NB363_365.out
      have hns31_2 := NB364_365.out
      have hms31_0 := NB365_356.out
      have hms31_1 := NB365_363.out
      have hms31_2 := NB365_364.out
      refine skip_ (w1 := ?_) (by rfl) rfl ?_ ?_
      rotate_left
      ·go_simp
       rfl
      refine hK.out _ _ ⟨gb363, gb364, gb365, m9_, m10_, m11_, (by rw [ha.out]; exact putSel_none (v := undef) rfl), (by (with_reducible repeat (first | apply Kd.R_alloc | apply Kd.R_drewN | apply Kd.R_drew)); exact Kd.R_mono (Kd.R_far (p := ⟨gb365, 1, none⟩) (Kd.R_far (p := ⟨gb365, 0, none⟩) (Kd.R_types HO_3.out BK365.out (by decide)) (fun _ hk => hk.2) (.int .i64 t361)) (fun _ hk => hk.2) (.int .i64 t362)) (fun _ hk => hk.1)), (by (with_reducible repeat (first | refine blk_drewN ?_ _ | refine blk_drew ?_ | refine blk_alloc ?_ _)); refine blk_far ?_ NB356_365.out _; (with_reducible repeat (first | refine blk_drewN ?_ _ | refine blk_drew ?_ | refine blk_alloc ?_ _)); refine blk_far ?_ NB356_365.out _; (with_reducible repeat (first | refine blk_drewN ?_ _ | refine blk_drew ?_ | refine blk_alloc ?_ _)); exact BK356.out), (bbw4 HB GE356 GE363 GE364 GE365), fun _ _ => NB364_363.out, fun _ _ => NB363_364.out, fun _ _ => NB365_363.out, fun _ _ => NB363_365.out, fun _ _ => NB365_364.out, fun _ _ => NB364_365.out, fun _ h1_ => absurd ((hon 12 (by kernel_rfl)).symm.trans h1_) (by decide), fun _ => GW363.out, fun _ => GE363.out, fun _ => NB356_363.out, fun _ => NB363_356.out, fun _ h1_ => absurd ((hon 13 (by kernel_rfl)).symm.trans h1_) (by decide), fun _ => GW364.out, fun _ => GE364.out, fun _ => NB356_364.out, fun _ => NB364_356.out, fun _ h1_ => absurd ((up_self b 14).symm.trans h1_) (by decide), fun _ => GW365.out, fun _ => GE365.out, fun _ => NB356_365.out, fun _ => NB365_356.out, fun _ => (by (with_reducible repeat (first | refine blk_drewN ?_ _ | refine blk_drew ?_ | refine blk_alloc ?_ _)); refine blk_far ?_ NB363_365.out _; (with_reducible repeat (first | refine blk_drewN ?_ _ | refine blk_drew ?_ | refine blk_alloc ?_ _)); refine blk_far ?_ NB363_365.out _; (with_reducible repeat (first | refine blk_drewN ?_ _ | refine blk_drew ?_ | refine blk_alloc ?_ _)); exact BK363.out), fun _ => (by (with_reducible repeat (first | refine blk_drewN ?_ _ | refine blk_drew ?_ | refine blk_alloc ?_ _)); refine blk_far ?_ NB364_365.out _; (with_reducible repeat (first | refine blk_drewN ?_ _ | refine blk_drew ?_ | refine blk_alloc ?_ _)); refine blk_far ?_ NB364_365.out _; (with_reducible repeat (first | refine blk_drewN ?_ _ | refine blk_drew ?_ | refine blk_alloc ?_ _)); exact BK364.out), fun _ => (by (with_reducible repeat (first | refine blk_drewN ?_ _ | refine blk_drew ?_ | refine blk_alloc ?_ _)); refine blk_put (cs := #[.int .i64 t361, .int .i64 0]) ?_ 1 _ rfl; (with_reducible repeat (first | refine blk_drewN ?_ _ | refine blk_drew ?_ | refine blk_alloc ?_ _)); refine blk_put (cs := #[.int .i64 0, .int .i64 0]) ?_ 0 _ rfl; (with_reducible repeat (first | refine blk_drewN ?_ _ | refine blk_drew ?_ | refine blk_alloc ?_ _)); exact BK365.out), Q_X9_, Q_X10_, Q_X11_⟩
     exact steps_nil
    rintro b a w31 hall ⟨gb363, gb364, gb365, m9_, m10_, m11_, ha, Q_HO_3, Q_BK356, Q_HB, Q_NB364_363, Q_NB363_364, Q_NB365_363, Q_NB363_365, Q_NB365_364, Q_NB364_365, Q_BK363, Q_GW363, Q_GE363, Q_NB356_363, Q_NB363_356, Q_BK364, Q_GW364, Q_GE364, Q_NB356_364, Q_NB364_356, Q_BK365, Q_GW365, Q_GE365, Q_NB356_365, Q_NB365_356, Q_BK363_e12, Q_BK364_e13, Q_BK365_e14, Q_X9_, Q_X10_, Q_X11_⟩
    clear BK356 HB HO_3
    have hb0_ := hall 0 (by kernel_rfl)
    have hb1_ := hall 1 (by kernel_rfl)
    have hb2_ := hall 2 (by kernel_rfl)
    have hb3_ := hall 3 (by kernel_rfl)
    have hb4_ := hall 4 (by kernel_rfl)
    have hb5_ := hall 5 (by kernel_rfl)
    have hb6_ := hall 6 (by kernel_rfl)
    have hb7_ := hall 7 (by kernel_rfl)
    have hb8_ := hall 8 (by kernel_rfl)
    have hb9_ := hall 9 (by kernel_rfl)
    have hb10_ := hall 10 (by kernel_rfl)
    have hb11_ := hall 11 (by kernel_rfl)
    have hb12_ := hall 12 (by kernel_rfl)
    have hb13_ := hall 13 (by kernel_rfl)
    have hb14_ := hall 14 (by kernel_rfl)
    subst ha
    obtain rfl := Q_X9_ hb9_
    obtain rfl := Q_X10_ hb10_
    obtain rfl := Q_X11_ hb11_
    simp only [putSel, hb0_, hb1_, hb2_, hb3_, hb4_, hb5_, hb6_, hb7_, hb8_, hb9_, hb10_, hb11_, hb12_, hb13_, hb14_, if_true, Act.put, sA, sB, sC]
    have HO_3 := Aside0.mk Q_HO_3
    clear Q_HO_3
    have BK356 := Aside0.mk Q_BK356
    clear Q_BK356
    have HB := Aside0.mk Q_HB
    clear Q_HB
    have NB364_363 := Aside0.mk (Q_NB364_363 hb9_ hb10_)
    clear Q_NB364_363
    have NB363_364 := Aside0.mk (Q_NB363_364 hb9_ hb10_)
    clear Q_NB363_364
    have NB365_363 := Aside0.mk (Q_NB365_363 hb9_ hb11_)
    clear Q_NB365_363
    have NB363_365 := Aside0.mk (Q_NB363_365 hb9_ hb11_)
    clear Q_NB363_365
    have NB365_364 := Aside0.mk (Q_NB365_364 hb10_ hb11_)
    clear Q_NB365_364
    have NB364_365 := Aside0.mk (Q_NB364_365 hb10_ hb11_)
    clear Q_NB364_365
    clear Q_BK363
    have GW363 := Aside0.mk (Q_GW363 hb9_)
    clear Q_GW363
    have GE363 := Aside0.mk (Q_GE363 hb9_)
    clear Q_GE363
    have NB356_363 := Aside0.mk (Q_NB356_363 hb9_)
    clear Q_NB356_363
    have NB363_356 := Aside0.mk (Q_NB363_356 hb9_)
    clear Q_NB363_356
    clear Q_BK364
    have GW364 := Aside0.mk (Q_GW364 hb10_)
    clear Q_GW364
    have GE364 := Aside0.mk (Q_GE364 hb10_)
    clear Q_GE364
    have NB356_364 := Aside0.mk (Q_NB356_364 hb10_)
    clear Q_NB356_364
    have NB364_356 := Aside0.mk (Q_NB364_356 hb10_)
    clear Q_NB364_356
    clear Q_BK365
    have GW365 := Aside0.mk (Q_GW365 hb11_)
    clear Q_GW365
    have GE365 := Aside0.mk (Q_GE365 hb11_)
    clear Q_GE365
    have NB356_365 := Aside0.mk (Q_NB356_365 hb11_)
    clear Q_NB356_365
    have NB365_356 := Aside0.mk (Q_NB365_356 hb11_)
    clear Q_NB365_356
    have BK363 := Aside0.mk (Q_BK363_e12 hb12_)
    clear Q_BK363_e12
    have BK364 := Aside0.mk (Q_BK364_e13 hb13_)
    clear Q_BK364_e13
    have BK365 := Aside0.mk (Q_BK365_e14 hb14_)
    clear Q_BK365_e14
    clear hall hb0_ hb1_ hb2_ hb3_ hb4_ hb5_ hb6_ hb7_ hb8_ hb9_ hb10_ hb11_ hb12_ hb13_ hb14_
    have hnb32 := NB363_356.out
    have hnc32 := NB356_363.out
    have hnb33 := NB363_364.out
    have hnc33 := NB364_363.out
    have hnb34 := NB363_365.out
    have hnc34 := NB365_363.out
    obtain ⟨hcz35_0, hcz35_1, hfz35_0, hfz35_1⟩ := bz2 BK363
    have H := Hq_.out
    clear Hq_
    replace H := Option.bind_eq_some_iff.mp H
    obtain ⟨t366, A80, H⟩ := H
    replace H : (if t366 = 1 then ((impl_norm.f a0 t359 t360).bind fun t367 => (if t367 = 1 then ((impl_norm.f a0 t361 t362).bind fun t368 => (if t368 = (wrap64 (2 + a0)) then (if x3_1.length < 4398046511104 then (impl_pointMats.l0 k1 a0 (x3_1 ++ [(⟨wrap64 ((wrap64 (Int.tdiv x10_1 27)) - 1), wrap64 ((Int.tmod (wrap64 (Int.tdiv x10_1 9)) 3) - 1), wrap64 ((Int.tmod (wrap64 (Int.tdiv x10_1 3)) 3) - 1), wrap64 ((Int.tmod x10_1 3) - 1)⟩ : S33)]) (wrap64 (x10_1 + 1))) else (none)) else (impl_pointMats.l0 k1 a0 x3_1 (wrap64 (x10_1 + 1))))) else (impl_pointMats.l0 k1 a0 x3_1 (wrap64 (x10_1 + 1))))) else (impl_pointMats.l0 k1 a0 x3_1 (wrap64 (x10_1 + 1)))) = some r := H
    have A8 := Aside0.mk A80
    clear A80
    by_cases c9 : t366 = 1
    ·rw [if_pos c9] at H
     have c9b0 : (t366 == 1) = true := beq_iff_eq.mpr c9
     have c9b1 : (t366 != 1) = false := bne_eq_false_iff_eq.mpr c9
     clear c9
     replace H := Option.bind_eq_some_iff.mp H
     obtain ⟨t367, A100, H⟩ := H
     replace H : (if t367 = 1 then ((impl_norm.f a0 t361 t362).bind fun t368 => (if t368 = (wrap64 (2 + a0)) then (if x3_1.length < 4398046511104 then (impl_pointMats.l0 k1 a0 (x3_1 ++ [(⟨wrap64 ((wrap64 (Int.tdiv x10_1 27)) - 1), wrap64 ((Int.tmod (wrap64 (Int.tdiv x10_1 9)) 3) - 1), wrap64 ((Int.tmod (wrap64 (Int.tdiv x10_1 3)) 3) - 1), wrap64 ((Int.tmod x10_1 3) - 1)⟩ : S33)]) (wrap64 (x10_1 + 1))) else (none)) else (impl_pointMats.l0 k1 a0 x3_1 (wrap64 (x10_1 + 1))))) else (impl_pointMats.l0 k1 a0 x3_1 (wrap64 (x10_1 + 1)))) = some r := H
     have A10 := Aside0.mk A100
     clear A100
     by_cases c11 : t367 = 1
     ·rw [if_pos c11] at H
      have c11b0 : (t367 == 1) = true := beq_iff_eq.mpr c11
      have c11b1 : (t367 != 1) = false := bne_eq_false_iff_eq.mpr c11
      clear c11
      replace H := Option.bind_eq_some_iff.mp H
      obtain ⟨t368, A120, H⟩ := H
      replace H : (if t368 = (wrap64 (2 + a0)) then (if x3_1.length < 4398046511104 then (impl_pointMats.l0 k1 a0 (x3_1 ++ [(⟨wrap64 ((wrap64 (Int.tdiv x10_1 27)) - 1), wrap64 ((Int.tmod (wrap64 (Int.tdiv x10_1 9)) 3) - 1), wrap64 ((Int.tmod (wrap64 (Int.tdiv x10_1 3)) 3) - 1), wrap64 ((Int.tmod x10_1 3) - 1)⟩ : S33)]) (wrap64 (x10_1 + 1))) else (none)) else (impl_pointMats.l0 k1 a0 x3_1 (wrap64 (x10_1 + 1)))) = some r := H
      have A12 := Aside0.mk A120
      clear A120
      by_cases c13 : t368 = (wrap64 (2 + a0))
      ·rw [if_pos c13] at H
       have c13b0 : (t368 == (wrap64 (2 + a0))) = true := beq_iff_eq.mpr c13
       have c13b1 : (t368 != (wrap64 (2 + a0))) = false := bne_eq_false_iff_eq.mpr c13
       clear c13
       by_cases c14 : x3_1.length < 4398046511104
       ·rw [if_pos c14] at H
        have LMc14 := Aside0.mk c14
        clear c14
        obtain ⟨y369, hy369⟩ : ∃ y_ : List (S33), y_ = (x3_1 ++ [(⟨wrap64 ((wrap64 (Int.tdiv x10_1 27)) - 1), wrap64 ((Int.tmod (wrap64 (Int.tdiv x10_1 9)) 3) - 1), wrap64 ((Int.tmod (wrap64 (Int.tdiv x10_1 3)) 3) - 1), wrap64 ((Int.tmod x10_1 3) - 1)⟩ : S33)]) := ⟨_, rfl⟩
        replace H : (impl_pointMats.l0 k1 a0 y369 (wrap64 (x10_1 + 1))) = some r := by first | (rw [hy369]; with_reducible exact H) | (have H2_ := (Option.bind_some _ _).symm.trans H; rw [hy369]; with_reducible exact H2_) | (have H2_ := (Option.bind_some _ _).symm.trans H; with_reducible exact H2_) | with_reducible exact H | (rw [hy369]; exact H) | exact H
        have Ny369 := Aside0.mk hy369
        clear hy369
        have H' := Aside0.mk H
        clear H
        try go_wp2_with (first | ((with_reducible refine gate_callee (f := 140) rfl ?_); refine goesL_ (some 39) rfl rfl Try.func140 (by kernel_rfl) rfl #[.int .i64 a0, .agg #[.int .i64 t357, .int .i64 t358]] rfl (by (try simp only [List.map_toArray, List.map_cons, List.map_nil]); first | done | rfl | (simp only [List.length_drop, List.length_take]; rfl)) ?_; (with_reducible refine (impl_norm.calls a0 t357 t358 t366 _ A8.out).mono ?_); rintro e w36 ⟨rfl, hb⟩; refine ⟨_, rfl, ?_⟩; replace HO_3 := Aside0.mk (Kd.R_below (by (with_reducible repeat (first | apply Kd.R_alloc | apply Kd.R_drewN | apply Kd.R_drew)); exact HO_3.out) hb); replace BK356 := Aside0.mk (bbl BK356 hb); replace BK363 := Aside0.mk (bbl BK363 hb); replace BK364 := Aside0.mk (bbl BK364 hb); replace BK365 := Aside0.mk (bbl BK365 hb); replace HB := Aside0.mk (bst4 HB GE356 GE363 GE364 GE365 hb); (try clear hb); (try clear hb2); (try clear hk); (try clear hi); have hnb37 := NB364_356.out; have hnc37 := NB356_364.out; have hnb38 := NB364_365.out; have hnc38 := NB365_364.out; obtain ⟨hcz39_0, hcz39_1, hfz39_0, hfz39_1⟩ := bz2 BK364) | (go_at_call 140; (with_reducible refine (impl_norm.calls a0 t359 t360 t367 _ A10.out).mono ?_); rintro e w40 ⟨rfl, hb⟩; replace HO_3 := Aside0.mk (Kd.R_below (by (with_reducible repeat (first | apply Kd.R_alloc | apply Kd.R_drewN | apply Kd.R_drew)); exact HO_3.out) hb); replace BK356 := Aside0.mk (bbl BK356 hb); replace BK363 := Aside0.mk (bbl BK363 hb); replace BK364 := Aside0.mk (bbl BK364 hb); replace BK365 := Aside0.mk (bbl BK365 hb); replace HB := Aside0.mk (bst4 HB GE356 GE363 GE364 GE365 hb); (try clear hb); (try clear hb2); (try clear hk); (try clear hi); have hnb41 := NB365_356.out; have hnc41 := NB356_365.out; obtain ⟨hcz42_0, hcz42_1, hfz42_0, hfz42_1⟩ := bz2 BK365) | (go_at_call 140; (with_reducible refine (impl_norm.calls a0 t361 t362 t368 _ A12.out).mono ?_); rintro e w43 ⟨rfl, hb⟩; replace HO_3 := Aside0.mk (Kd.R_below (by (with_reducible repeat (first | apply Kd.R_alloc | apply Kd.R_drewN | apply Kd.R_drew)); exact HO_3.out) hb); replace BK356 := Aside0.mk (bbl BK356 hb); replace BK363 := Aside0.mk (bbl BK363 hb); replace BK364 := Aside0.mk (bbl BK364 hb); replace BK365 := Aside0.mk (bbl BK365 hb); replace HB := Aside0.mk (bst4 HB GE356 GE363 GE364 GE365 hb); (try clear hb); (try clear hb2); (try clear hk); (try clear hi); obtain ⟨hcz44_0, hcz44_1, hcz44_2, hcz44_3, hfz44_0, hfz44_1, hfz44_2, hfz44_3⟩ := bz4 BK356) | ((with_reducible refine gate_builtin (b := .append) (xs := #[.tmp 55, .tmp 57]) rfl ?_); at_builtin; refine Kd.R_append k33 (w0 := w) w.heap.size rfl (.tmp 55) (.tmp 57) 99 33 (.agg #[(.int .i64 0), (.int .i64 0), (.int .i64 0), (.int .i64 0)]) 32 rfl Try.underlying99 info33 rfl (by decide) (by omega) u3 x3_1 (⟨wrap64 ((wrap64 (Int.tdiv x10_1 27)) - 1), wrap64 ((Int.tmod (wrap64 (Int.tdiv x10_1 9)) 3) - 1), wrap64 ((Int.tmod (wrap64 (Int.tdiv x10_1 3)) 3) - 1), wrap64 ((Int.tmod x10_1 3) - 1)⟩ : S33) [.int .i64 (wrap64 ((wrap64 (Int.tdiv x10_1 27)) - 1)), .int .i64 (wrap64 ((Int.tmod (wrap64 (Int.tdiv x10_1 9)) 3) - 1)), .int .i64 (wrap64 ((Int.tmod (wrap64 (Int.tdiv x10_1 3)) 3) - 1)), .int .i64 (wrap64 ((Int.tmod x10_1 3) - 1))] (fun k_ => k_ ≠ gb356) (fun _ => False) rfl rfl ?aP (fun _ hk => hk.elim) ?aF ?aO ?aB ?aS ?aL ?_; (case aP => exact k33_mkM _ _ _ (⟨wrap64 ((wrap64 (Int.tdiv x10_1 27)) - 1), wrap64 ((Int.tmod (wrap64 (Int.tdiv x10_1 9)) 3) - 1), wrap64 ((Int.tmod (wrap64 (Int.tdiv x10_1 3)) 3) - 1), wrap64 ((Int.tmod x10_1 3) - 1)⟩ : S33)); (case aB => exact (bbw4 HB GE356 GE363 GE364 GE365)); (case aF => exact (fun k_ hk => Kd.freshB (g := gb356) (o := .cells #[.int .i64 (wrap64 ((wrap64 (Int.tdiv x10_1 27)) - 1)), .int .i64 (wrap64 ((Int.tmod (wrap64 (Int.tdiv x10_1 9)) 3) - 1)), .int .i64 (wrap64 ((Int.tmod (wrap64 (Int.tdiv x10_1 3)) 3) - 1)), .int .i64 (wrap64 ((Int.tmod x10_1 3) - 1))] 33 (0, 0)) (bkp BK356) k_ hk)); (case aO => exact (by (with_reducible repeat (first | apply Kd.R_alloc | apply Kd.R_drewN | apply Kd.R_drew)); exact HO_3.out)); (case aS => exact (bsz4 HB GE356 GE363 GE364 GE365)); (case aL => have := LMc14.out; omega); intro v370 w45 ho hb hg hat; rw [← Ny369.out] at ho; have n0_ := Aside0.mk (blk_grown (g := gb356) (o := .cells #[.int .i64 (wrap64 ((wrap64 (Int.tdiv x10_1 27)) - 1)), .int .i64 (wrap64 ((Int.tmod (wrap64 (Int.tdiv x10_1 9)) 3) - 1)), .int .i64 (wrap64 ((Int.tmod (wrap64 (Int.tdiv x10_1 3)) 3) - 1)), .int .i64 (wrap64 ((Int.tmod x10_1 3) - 1))] 33 (0, 0)) (bkp BK356) hg (Kd.R_away HO_3.out (fun _ hk => hk))); have n1_ := Aside0.mk (blk_grown (g := gb363) (o := .cells #[.int .i64 t357, .int .i64 t358] 34 (0, 0)) (bkp BK363) hg (Kd.R_ne HO_3.out BK363.out (by decide))); have n2_ := Aside0.mk (blk_grown (g := gb364) (o := .cells #[.int .i64 t359, .int .i64 t360] 34 (0, 0)) (bkp BK364) hg (Kd.R_ne HO_3.out BK364.out (by decide))); have n3_ := Aside0.mk (blk_grown (g := gb365) (o := .cells #[.int .i64 t361, .int .i64 t362] 34 (0, 0)) (bkp BK365) hg (Kd.R_ne HO_3.out BK365.out (by decide))); have n4_ := Aside0.mk (hb); have n5_ := Aside0.mk (ho); clear BK356; clear BK363; clear BK364; clear BK365; clear HB; clear HO_3; have BK356 := n0_; have BK363 := n1_; have BK364 := n2_; have BK365 := n3_; have HB := n4_; have HO371 := n5_; clear n0_ n1_ n2_ n3_ n4_ n5_; clear ho hb hg hat))
        go_roundg k1
        case measure => have := HK1.out; omega
        case rel => exact ⟨(y369), (wrap64 (x10_1 + 1)), (by first | rfl | (simp; done) | (simp [*]; done)), H', ⟨by have := HK1.out; omega⟩, ⟨by (with_reducible repeat (first | apply Kd.R_alloc | apply Kd.R_drewN | apply Kd.R_drew)); exact Kd.R_mono HO371.out (fun _ hk => trivial)⟩, ⟨bbw4 HB GE356 GE363 GE364 GE365⟩⟩
       ·rw [if_neg c14] at H
        exact absurd H (by simp)
      ·rw [if_neg c13] at H
       have c13b0 : (t368 == (wrap64 (2 + a0))) = false := beq_eq_false_iff_ne.mpr c13
       have c13b1 : (t368 != (wrap64 (2 + a0))) = true := bne_iff_ne.mpr c13
       have H' := Aside0.mk H
       clear H
       try go_wp2_with (first | ((with_reducible refine gate_callee (f := 140) rfl ?_); refine goesL_ (some 39) rfl rfl Try.func140 (by kernel_rfl) rfl #[.int .i64 a0, .agg #[.int .i64 t357, .int .i64 t358]] rfl (by (try simp only [List.map_toArray, List.map_cons, List.map_nil]); first | done | rfl | (simp only [List.length_drop, List.length_take]; rfl)) ?_; (with_reducible refine (impl_norm.calls a0 t357 t358 t366 _ A8.out).mono ?_); rintro e w67 ⟨rfl, hb⟩; refine ⟨_, rfl, ?_⟩; replace HO_3 := Aside0.mk (Kd.R_below (by (with_reducible repeat (first | apply Kd.R_alloc | apply Kd.R_drewN | apply Kd.R_drew)); exact HO_3.out) hb); replace BK356 := Aside0.mk (bbl BK356 hb); replace BK363 := Aside0.mk (bbl BK363 hb); replace BK364 := Aside0.mk (bbl BK364 hb); replace BK365 := Aside0.mk (bbl BK365 hb); replace HB := Aside0.mk (bst4 HB GE356 GE363 GE364 GE365 hb); (try clear hb); (try clear hb2); (try clear hk); (try clear hi); have hnb68 := NB364_356.out; have hnc68 := NB356_364.out; have hnb69 := NB364_365.out; have hnc69 := NB365_364.out; obtain ⟨hcz70_0, hcz70_1, hfz70_0, hfz70_1⟩ := bz2 BK364) | (go_at_call 140; (with_reducible refine (impl_norm.calls a0 t359 t360 t367 _ A10.out).mono ?_); rintro e w71 ⟨rfl, hb⟩; replace HO_3 := Aside0.mk (Kd.R_below (by (with_reducible repeat (first | apply Kd.R_alloc | apply Kd.R_drewN | apply Kd.R_drew)); exact HO_3.out) hb); replace BK356 := Aside0.mk (bbl BK356 hb); replace BK363 := Aside0.mk (bbl BK363 hb); replace BK364 := Aside0.mk (bbl BK364 hb); replace BK365 := Aside0.mk (bbl BK365 hb); replace HB := Aside0.mk (bst4 HB GE356 GE363 GE364 GE365 hb); (try clear hb); (try clear hb2); (try clear hk); (try clear hi); have hnb72 := NB365_356.out; have hnc72 := NB356_365.out; obtain ⟨hcz73_0, hcz73_1, hfz73_0, hfz73_1⟩ := bz2 BK365) | (go_at_call 140; (with_reducible refine (impl_norm.calls a0 t361 t362 t368 _ A12.out).mono ?_); rintro e w74 ⟨rfl, hb⟩; replace HO_3 := Aside0.mk (Kd.R_below (by (with_reducible repeat (first | apply Kd.R_alloc | apply Kd.R_drewN | apply Kd.R_drew)); exact HO_3.out) hb); replace BK356 := Aside0.mk (bbl BK356 hb); replace BK363 := Aside0.mk (bbl BK363 hb); replace BK364 := Aside0.mk (bbl BK364 hb); replace BK365 := Aside0.mk (bbl BK365 hb); replace HB := Aside0.mk (bst4 HB GE356 GE363 GE364 GE365 hb); (try clear hb); (try clear hb2); (try clear hk); (try clear hi)))
       go_roundg k1
       case measure => have := HK1.out; omega
       case rel => exact ⟨(x3_1), (wrap64 (x10_1 + 1)), (by first | rfl | (simp; done) | (simp [*]; done)), H', ⟨by have := HK1.out; omega⟩, ⟨by (with_reducible repeat (first | apply Kd.R_alloc | apply Kd.R_drewN | apply Kd.R_drew)); exact Kd.R_mono HO_3.out (fun _ hk => trivial)⟩, ⟨bbw4 HB GE356 GE363 GE364 GE365⟩⟩
     ·rw [if_neg c11] at H
      have c11b0 : (t367 == 1) = false := beq_eq_false_iff_ne.mpr c11
      have c11b1 : (t367 != 1) = true := bne_iff_ne.mpr c11
      have H' := Aside0.mk H
      clear H
      try go_wp2_with (first | ((with_reducible refine gate_callee (f := 140) rfl ?_); refine goesL_ (some 39) rfl rfl Try.func140 (by kernel_rfl) rfl #[.int .i64 a0, .agg #[.int .i64 t357, .int .i64 t358]] rfl (by (try simp only [List.map_toArray, List.map_cons, List.map_nil]); first | done | rfl | (simp only [List.length_drop, List.length_take]; rfl)) ?_; (with_reducible refine (impl_norm.calls a0 t357 t358 t366 _ A8.out).mono ?_); rintro e w96 ⟨rfl, hb⟩; refine ⟨_, rfl, ?_⟩; replace HO_3 := Aside0.mk (Kd.R_below (by (with_reducible repeat (first | apply Kd.R_alloc | apply Kd.R_drewN | apply Kd.R_drew)); exact HO_3.out) hb); replace BK356 := Aside0.mk (bbl BK356 hb); replace BK363 := Aside0.mk (bbl BK363 hb); replace BK364 := Aside0.mk (bbl BK364 hb); replace BK365 := Aside0.mk (bbl BK365 hb); replace HB := Aside0.mk (bst4 HB GE356 GE363 GE364 GE365 hb); (try clear hb); (try clear hb2); (try clear hk); (try clear hi); have hnb97 := NB364_356.out; have hnc97 := NB356_364.out; have hnb98 := NB364_365.out; have hnc98 := NB365_364.out; obtain ⟨hcz99_0, hcz99_1, hfz99_0, hfz99_1⟩ := bz2 BK364) | (go_at_call 140; (with_reducible refine (impl_norm.calls a0 t359 t360 t367 _ A10.out).mono ?_); rintro e w100 ⟨rfl, hb⟩; replace HO_3 := Aside0.mk (Kd.R_below (by (with_reducible repeat (first | apply Kd.R_alloc | apply Kd.R_drewN | apply Kd.R_drew)); exact HO_3.out) hb); replace BK356 := Aside0.mk (bbl BK356 hb); replace BK363 := Aside0.mk (bbl BK363 hb); replace BK364 := Aside0.mk (bbl BK364 hb); replace BK365 := Aside0.mk (bbl BK365 hb); replace HB := Aside0.mk (bst4 HB GE356 GE363 GE364 GE365 hb); (try clear hb); (try clear hb2); (try clear hk); (try clear hi)))
      go_roundg k1
      case measure => have := HK1.out; omega
      case rel => exact ⟨(x3_1), (wrap64 (x10_1 + 1)), (by first | rfl | (simp; done) | (simp [*]; done)), H', ⟨by have := HK1.out; omega⟩, ⟨by (with_reducible repeat (first | apply Kd.R_alloc | apply Kd.R_drewN | apply Kd.R_drew)); exact Kd.R_mono HO_3.out (fun _ hk => trivial)⟩, ⟨bbw4 HB GE356 GE363 GE364 GE365⟩⟩
    ·rw [if_neg c9] at H
     have c9b0 : (t366 == 1) = false := beq_eq_false_iff_ne.mpr c9
     have c9b1 : (t366 != 1) = true := bne_iff_ne.mpr c9
     have H' := Aside0.mk H
     clear H
     try go_wp2_with (first | ((with_reducible refine gate_callee (f := 140) rfl ?_); refine goesL_ (some 39) rfl rfl Try.func140 (by kernel_rfl) rfl #[.int .i64 a0, .agg #[.int .i64 t357, .int .i64 t358]] rfl (by (try simp only [List.map_toArray, List.map_cons, List.map_nil]); first | done | rfl | (simp only [List.length_drop, List.length_take]; rfl)) ?_; (with_reducible refine (impl_norm.calls a0 t357 t358 t366 _ A8.out).mono ?_); rintro e w122 ⟨rfl, hb⟩; refine ⟨_, rfl, ?_⟩; replace HO_3 := Aside0.mk (Kd.R_below (by (with_reducible repeat (first | apply Kd.R_alloc | apply Kd.R_drewN | apply Kd.R_drew)); exact HO_3.out) hb); replace BK356 := Aside0.mk (bbl BK356 hb); replace BK363 := Aside0.mk (bbl BK363 hb); replace BK364 := Aside0.mk (bbl BK364 hb); replace BK365 := Aside0.mk (bbl BK365 hb); replace HB := Aside0.mk (bst4 HB GE356 GE363 GE364 GE365 hb); (try clear hb); (try clear hb2); (try clear hk); (try clear hi)))
     go_roundg k1
     case measure => have := HK1.out; omega
     case rel => exact ⟨(x3_1), (wrap64 (x10_1 + 1)), (by first | rfl | (simp; done) | (simp [*]; done)), H', ⟨by have := HK1.out; omega⟩, ⟨by (with_reducible repeat (first | apply Kd.R_alloc | apply Kd.R_drewN | apply Kd.R_drew)); exact Kd.R_mono HO_3.out (fun _ hk => trivial)⟩, ⟨bbw4 HB GE356 GE363 GE364 GE365⟩⟩
   ·rw [if_neg c4] at H
    have c4b0 : decide (x10_1 < 81) = false := decide_eq_false c4
    clear c4
    obtain rfl := Option.some.inj H
    go_wp2
    go_ret
    exact ⟨_, by first | rfl | (simp [errW_none, errW_some] <;> rfl) | (simp [*, errW_none, errW_some] <;> rfl), by (with_reducible repeat (first | apply Kd.R_alloc | apply Kd.R_drewN | apply Kd.R_drew)); exact HO_3.out, bbw0 HB⟩

/-! ### impl_latticeMats: function 83 -/
def impl_latticeMats.app (m : S33) (x y : Int) : Int × Int := (impl_Mat_apply.f m.f0 m.f1 m.f2 m.f3 x y).getD (0, 0)
def impl_latticeMats.hasB (a b c : Int) (t : Int × Int) : Bool := (impl_Lattice_has.f a b c t.1 t.2).getD false
/-- Does a matrix map a lattice into itself? -/
def impl_latticeMats.keep (a b c : Int) (m : S33) : Bool := impl_latticeMats.hasB a b c (impl_latticeMats.app m a 0) && impl_latticeMats.hasB a b c (impl_latticeMats.app m b c)
theorem impl_latticeMats.app_eq (m : S33) (x y : Int) : impl_Mat_apply.f m.f0 m.f1 m.f2 m.f3 x y = some ((impl_latticeMats.app m x y).1, (impl_latticeMats.app m x y).2) := rfl
theorem impl_latticeMats.has_eq (a b c : Int) (ha : a ≠ 0) (hc : c ≠ 0) (t : Int × Int) : impl_Lattice_has.f a b c t.1 t.2 = some (impl_latticeMats.hasB a b c t) := by
 have : (impl_Lattice_has.f a b c t.1 t.2).isSome = true := by
  simp [impl_Lattice_has.f, impl_Lattice_reduce.f, impl_mod.f, ha, hc]
 obtain ⟨r, hr⟩ := Option.isSome_iff_exists.1 this
 unfold impl_latticeMats.hasB
 rw [hr]; rfl
def impl_latticeMats.f (k : Nat) (a0 : Int) (a1_0 : Int) (a1_1 : Int) (a1_2 : Int) : Option (List S33) := if a1_0 = 0 then none else (if a1_2 = 0 then none else ((impl_pointMats.f k a0).bind fun l => some (l.filter (impl_latticeMats.keep a1_0 a1_1 a1_2))))
abbrev impl_latticeMats.Held (W : World) (a b c : Int) (L U V B : Nat) (x : S33) (w' : World) : Prop := Below W.heap.size W w' ∧ w'.cell? ⟨L, 0, none⟩ = some (.int .i64 a) ∧ w'.cell? ⟨L, 1, none⟩ = some (.int .i64 b) ∧ w'.cell? ⟨L, 2, none⟩ = some (.int .i64 c) ∧ w'.cell? ⟨U, 0, none⟩ = some (.int .i64 a) ∧ w'.cell? ⟨U, 1, none⟩ = some (.int .i64 0) ∧ w'.cell? ⟨V, 0, none⟩ = some (.int .i64 b) ∧ w'.cell? ⟨V, 1, none⟩ = some (.int .i64 c) ∧ w'.cell? ⟨B, 0, none⟩ = some (.int .i64 x.f0) ∧ w'.cell? ⟨B, 1, none⟩ = some (.int .i64 x.f1) ∧ w'.cell? ⟨B, 2, none⟩ = some (.int .i64 x.f2) ∧ w'.cell? ⟨B, 3, none⟩ = some (.int .i64 x.f3)
theorem impl_latticeMats.held_below {W : World} {a b c : Int} {L U V B : Nat} {x : S33} {w w' : World} (h : impl_latticeMats.Held W a b c L U V B x w) (hb : Below w.heap.size w w') : impl_latticeMats.Held W a b c L U V B x w' := by
 obtain ⟨h0, s0, s1, s2, s3, s4, s5, s6, s7, s8, s9, s10⟩ := h
 exact ⟨below_then h0 h0.size hb, (hb.cell (World.block_lt_of_cell? w _ s0)).trans s0, (hb.cell (World.block_lt_of_cell? w _ s1)).trans s1, (hb.cell (World.block_lt_of_cell? w _ s2)).trans s2, (hb.cell (World.block_lt_of_cell? w _ s3)).trans s3, (hb.cell (World.block_lt_of_cell? w _ s4)).trans s4, (hb.cell (World.block_lt_of_cell? w _ s5)).trans s5, (hb.cell (World.block_lt_of_cell? w _ s6)).trans s6, (hb.cell (World.block_lt_of_cell? w _ s7)).trans s7, (hb.cell (World.block_lt_of_cell? w _ s8)).trans s8, (hb.cell (World.block_lt_of_cell? w _ s9)).trans s9, (hb.cell (World.block_lt_of_cell? w _ s10)).trans s10⟩
theorem impl_latticeMats.held_drew {W : World} {a b c : Int} {L U V B : Nat} {x : S33} {w : World} (h : impl_latticeMats.Held W a b c L U V B x w) : impl_latticeMats.Held W a b c L U V B x w.drew := ⟨below_drew1 h.1, h.2⟩
set_option maxHeartbeats 40000000 in
set_option maxRecDepth 100000 in
theorem impl_latticeMats.pred (a b c : Int) (L U V : Nat) (W : World) (hl0 : W.cell? ⟨L, 0, none⟩ = some (.int .i64 a)) (hl1 : W.cell? ⟨L, 1, none⟩ = some (.int .i64 b)) (hl2 : W.cell? ⟨L, 2, none⟩ = some (.int .i64 c)) (hu0 : W.cell? ⟨U, 0, none⟩ = some (.int .i64 a)) (hu1 : W.cell? ⟨U, 1, none⟩ = some (.int .i64 0)) (hv0 : W.cell? ⟨V, 0, none⟩ = some (.int .i64 b)) (hv1 : W.cell? ⟨V, 1, none⟩ = some (.int .i64 c)) (ha : a ≠ 0) (hc : c ≠ 0) (x : S33) :
  Calls Try.prog 123 (#[.agg #[.int .i64 x.f0, .int .i64 x.f1, .int .i64 x.f2, .int .i64 x.f3]] ++ #[.pointer (some ⟨L, 0, none⟩), .pointer (some ⟨U, 0, none⟩), .pointer (some ⟨V, 0, none⟩)]) W fun e w' => e = .returned (.bool (!(impl_latticeMats.keep a b c x))) ∧ Below W.heap.size W w' := by
 show Calls Try.prog 123 #[.agg #[.int .i64 x.f0, .int .i64 x.f1, .int .i64 x.f2, .int .i64 x.f3], .pointer (some ⟨L, 0, none⟩), .pointer (some ⟨U, 0, none⟩), .pointer (some ⟨V, 0, none⟩)] W _
 have hu33 := Try.underlying33
 have hu34 := Try.underlying34
 have hu31 := Try.underlying31
 have A1 := Aside0.mk (impl_latticeMats.app_eq x a 0)
 have A2 := Aside0.mk (impl_latticeMats.has_eq a b c ha hc (impl_latticeMats.app x a 0))
 have A3 := Aside0.mk (impl_latticeMats.app_eq x b c)
 have A4 := Aside0.mk (impl_latticeMats.has_eq a b c ha hc (impl_latticeMats.app x b c))
 unfold impl_latticeMats.keep
 generalize impl_latticeMats.app x a 0 = p1 at A1 A2 ⊢
 generalize impl_latticeMats.app x b c = p2 at A3 A4 ⊢
 generalize impl_latticeMats.hasB a b c p1 = r1 at A2 ⊢
 generalize impl_latticeMats.hasB a b c p2 = r2 at A4 ⊢
 have hb0 := below_alloc (Below.refl W.heap.size W) (.cells #[.int .i64 x.f0, .int .i64 x.f1, .int .i64 x.f2, .int .i64 x.f3] 33)
 have hS0 : impl_latticeMats.Held W a b c L U V W.heap.size x (W.alloc (.cells #[.int .i64 x.f0, .int .i64 x.f1, .int .i64 x.f2, .int .i64 x.f3] 33)) :=
  ⟨hb0, (hb0.cell (World.block_lt_of_cell? W _ hl0)).trans hl0, (hb0.cell (World.block_lt_of_cell? W _ hl1)).trans hl1, (hb0.cell (World.block_lt_of_cell? W _ hl2)).trans hl2, (hb0.cell (World.block_lt_of_cell? W _ hu0)).trans hu0, (hb0.cell (World.block_lt_of_cell? W _ hu1)).trans hu1, (hb0.cell (World.block_lt_of_cell? W _ hv0)).trans hv0, (hb0.cell (World.block_lt_of_cell? W _ hv1)).trans hv1, by simp, by simp, by simp, by simp⟩
 have C1 := Aside0.mk (fun (w' : World) (h : impl_latticeMats.Held W a b c L U V W.heap.size x w') => (impl_Mat_apply.calls x.f0 x.f1 x.f2 x.f3 a 0 p1.1 p1.2 w' A1.out).mono (fun e w'' (he : _ ∧ _) => (⟨he.1, impl_latticeMats.held_below h he.2⟩ : _ ∧ impl_latticeMats.Held W a b c L U V W.heap.size x w'')))
 have C2 := Aside0.mk (fun (w' : World) (h : impl_latticeMats.Held W a b c L U V W.heap.size x w') => (impl_Lattice_has.calls a b c p1.1 p1.2 r1 w' A2.out).mono (fun e w'' (he : _ ∧ _) => (⟨he.1, impl_latticeMats.held_below h he.2⟩ : _ ∧ impl_latticeMats.Held W a b c L U V W.heap.size x w'')))
 have C3 := Aside0.mk (fun (w' : World) (h : impl_latticeMats.Held W a b c L U V W.heap.size x w') => (impl_Mat_apply.calls x.f0 x.f1 x.f2 x.f3 b c p2.1 p2.2 w' A3.out).mono (fun e w'' (he : _ ∧ _) => (⟨he.1, impl_latticeMats.held_below h he.2⟩ : _ ∧ impl_latticeMats.Held W a b c L U V W.heap.size x w'')))
 have C4 := Aside0.mk (fun (w' : World) (h : impl_latticeMats.Held W a b c L U V W.heap.size x w') => (impl_Lattice_has.calls a b c p2.1 p2.2 r2 w' A4.out).mono (fun e w'' (he : _ ∧ _) => (⟨he.1, impl_latticeMats.held_below h he.2⟩ : _ ∧ impl_latticeMats.Held W a b c L U V W.heap.size x w'')))
 clear hl0 hl1 hl2 hu0 hu1 hv0 hv1 ha hc hb0
 have hS1 := hS0
 obtain ⟨sb, s0, s1, s2, s3, s4, s5, s6, s7, s8, s9, s10⟩ := hS0
 cases r1 with
 | false =>
  go_enter Try.func123, Try.ntmps123
  go_wp2
  refine wp_region_held_drew (S := (fun w' => Below W.heap.size W w' ∧ w'.cell? ⟨L, 0, none⟩ = some (.int .i64 a) ∧ w'.cell? ⟨L, 1, none⟩ = some (.int .i64 b) ∧ w'.cell? ⟨L, 2, none⟩ = some (.int .i64 c) ∧ w'.cell? ⟨U, 0, none⟩ = some (.int .i64 a) ∧ w'.cell? ⟨U, 1, none⟩ = some (.int .i64 0) ∧ w'.cell? ⟨V, 0, none⟩ = some (.int .i64 b) ∧ w'.cell? ⟨V, 1, none⟩ = some (.int .i64 c) ∧ w'.cell? ⟨W.heap.size, 0, none⟩ = some (.int .i64 x.f0) ∧ w'.cell? ⟨W.heap.size, 1, none⟩ = some (.int .i64 x.f1) ∧ w'.cell? ⟨W.heap.size, 2, none⟩ = some (.int .i64 x.f2) ∧ w'.cell? ⟨W.heap.size, 3, none⟩ = some (.int .i64 x.f3))) (by kernel_rfl) (impl_latticeMats.held_drew hS1) (fun hHeld => ?_)
  refine wpAnyH_take (i := 0) (v := ?_) rfl (by kernel_rfl) (by kernel_rfl) (by kernel_rfl) (fun _ _ _ h => h) (Or.inl ⟨by rfl, ?_⟩) (by assumption) ?_
  rotate_left
  ·intro w' hSw; (try dsimp only at hSw); go_simp; first | done | with_reducible rfl
  rotate_left
  try simp only [Act.put, sA, sB, sC]
  refine wpAnyH_take (i := 1) (v := ?_) rfl (by kernel_rfl) (by kernel_rfl) (by kernel_rfl) (fun _ _ _ h => h) (Or.inl ⟨by rfl, ?_⟩) (by assumption) ?_
  rotate_left
  ·intro w' hSw; (try dsimp only at hSw); go_simp; first | done | with_reducible rfl
  rotate_left
  try simp only [Act.put, sA, sB, sC]
  refine wpAnyH_take (i := 2) (v := ?_) rfl (by kernel_rfl) (by kernel_rfl) (by kernel_rfl) (fun _ _ _ h => h) (Or.inl ⟨by rfl, ?_⟩) (by assumption) ?_
  rotate_left
  ·intro w' hSw; (try dsimp only at hSw); go_simp; first | done | with_reducible rfl
  rotate_left
  try simp only [Act.put, sA, sB, sC]
  refine wpAnyH_ready (rs := [3]) (by kernel_rfl) (by simp) ?_
  refine AllReadyH.cons rfl (fun K hK => ?_) AllReadyH.nil
  go_simp
  go_at_call 124
  (with_reducible refine (C1.out _ ?_).mono ?_)
  (assumption)
  rintro e w' ⟨rfl, hS'⟩
  refine hK.out _ _ (hS') (fun hHeld => ?_)
  clear hK K
  try simp only [Act.put, sA, sB, sC]
  refine wpAnyH_ready (rs := [4]) (by kernel_rfl) (by simp) ?_
  refine AllReadyH.cons rfl (fun K hK => ?_) AllReadyH.nil
  go_simp
  go_at_call 93
  (with_reducible refine (C2.out _ ?_).mono ?_)
  (assumption)
  rintro e w' ⟨rfl, hS'⟩
  refine hK.out _ _ (hS') (fun hHeld => ?_)
  clear hK K
  try simp only [Act.put, sA, sB, sC]
  refine wpAnyH_take (i := 5) (oi := { dst := some 11, op := _, type := _, pos := _, after := _, guard := _ }) (v := ?_) rfl (by kernel_rfl) (by kernel_rfl) (by kernel_rfl) (fun _ _ _ h => h) (Or.inl ⟨by rfl, ?_⟩) (by assumption) ?_
  rotate_left
  ·intro w' hSw; (try dsimp only at hSw); go_simp; first | done | with_reducible rfl
  rotate_left
  try simp only [Act.put, sA, sB, sC]
  refine wpAnyH_take (i := 6) (oi := { dst := some 12, op := _, type := _, pos := _, after := _, guard := _ }) (v := ?_) rfl (by kernel_rfl) (by kernel_rfl) (by kernel_rfl) (fun _ _ _ h => h) (Or.inl ⟨by rfl, ?_⟩) (by assumption) ?_
  rotate_left
  ·intro w' hSw; (try dsimp only at hSw); go_simp; first | done | with_reducible rfl
  rotate_left
  try simp only [Act.put, sA, sB, sC]
  refine wpAnyH_take (i := 7) (oi := { dst := some 13, op := _, type := _, pos := _, after := _, guard := _ }) (v := _) rfl (by kernel_rfl) (by kernel_rfl) (by kernel_rfl) (fun _ _ _ h => h) (Or.inr ⟨by rfl, rfl⟩) (by assumption) ?_
  try simp only [Act.put, sA, sB, sC]
  refine wpAnyH_take (i := 8) (oi := { dst := some 14, op := _, type := _, pos := _, after := _, guard := _ }) (v := _) rfl (by kernel_rfl) (by kernel_rfl) (by kernel_rfl) (fun _ _ _ h => h) (Or.inr ⟨by rfl, rfl⟩) (by assumption) ?_
  try simp only [Act.put, sA, sB, sC]
  refine wpAnyH_take (i := 9) (oi := { dst := some 15, op := _, type := _, pos := _, after := _, guard := _ }) (v := _) rfl (by kernel_rfl) (by kernel_rfl) (by kernel_rfl) (fun _ _ _ h => h) (Or.inr ⟨by rfl, rfl⟩) (by assumption) ?_
  try simp only [Act.put, sA, sB, sC]
  refine wpAnyH_take (i := 10) (oi := { dst := some 16, op := _, type := _, pos := _, after := _, guard := _ }) (v := _) rfl (by kernel_rfl) (by kernel_rfl) (by kernel_rfl) (fun _ _ _ h => h) (Or.inr ⟨by rfl, rfl⟩) (by assumption) ?_
  try simp only [Act.put, sA, sB, sC]
  refine wpAnyH_take (i := 11) (oi := { dst := some 17, op := _, type := _, pos := _, after := _, guard := _ }) (v := _) rfl (by kernel_rfl) (by kernel_rfl) (by kernel_rfl) (fun _ _ _ h => h) (Or.inr ⟨by rfl, rfl⟩) (by assumption) ?_
  try simp only [Act.put, sA, sB, sC]
  refine wpAnyH_take (i := 12) (oi := { dst := some 18, op := Op.unOp UnOp.not _ (Operand.tmp 17), type := _, pos := _, after := _, guard := _ }) (v := _) rfl (by kernel_rfl) (by kernel_rfl) (by kernel_rfl) (fun _ _ _ h => h) (Or.inr ⟨by rfl, rfl⟩) (by assumption) ?_
  try simp only [Act.put, sA, sB, sC]
  refine wpAnyH_take (i := 13) (oi := { dst := some 19, op := Op.pick (Operand.tmp 12) (Operand.const (Value.bool true)) (Operand.tmp 18), type := _, pos := _, after := _, guard := _ }) (v := ?_) rfl (by kernel_rfl) (by kernel_rfl) (by kernel_rfl) (fun _ _ _ h => h) (Or.inl ⟨by rfl, ?_⟩) (by assumption) ?_
  rotate_left
  ·intro w' hSw; (try dsimp only at hSw); go_simp; first | done | with_reducible rfl
  rotate_left
  try simp only [Act.put, sA, sB, sC]
  refine wpAnyH_take (i := 14) (oi := { dst := some 5, op := Op.assign (Operand.tmp 19), type := _, pos := _, after := _, guard := _ }) (v := ?_) rfl (by kernel_rfl) (by kernel_rfl) (by kernel_rfl) (fun _ _ _ h => h) (Or.inl ⟨by rfl, ?_⟩) (by assumption) ?_
  rotate_left
  ·intro w' hSw; (try dsimp only at hSw); go_simp; first | done | with_reducible rfl
  rotate_left
  try simp only [Act.put, sA, sB, sC]
  refine wpAnyH_done (by kernel_rfl) ?_ _
  all_goals go_wp2
  all_goals go_ret
  all_goals exact ⟨by first | rfl | (cases r2 <;> rfl), (show impl_latticeMats.Held W a b c L U V W.heap.size x _ by assumption).1⟩
 | true =>
  go_enter Try.func123, Try.ntmps123
  go_wp2
  first | (go_region_held3 (fun w' => Below W.heap.size W w' ∧ w'.cell? ⟨L, 0, none⟩ = some (.int .i64 a) ∧ w'.cell? ⟨L, 1, none⟩ = some (.int .i64 b) ∧ w'.cell? ⟨L, 2, none⟩ = some (.int .i64 c) ∧ w'.cell? ⟨U, 0, none⟩ = some (.int .i64 a) ∧ w'.cell? ⟨U, 1, none⟩ = some (.int .i64 0) ∧ w'.cell? ⟨V, 0, none⟩ = some (.int .i64 b) ∧ w'.cell? ⟨V, 1, none⟩ = some (.int .i64 c) ∧ w'.cell? ⟨W.heap.size, 0, none⟩ = some (.int .i64 x.f0) ∧ w'.cell? ⟨W.heap.size, 1, none⟩ = some (.int .i64 x.f1) ∧ w'.cell? ⟨W.heap.size, 2, none⟩ = some (.int .i64 x.f2) ∧ w'.cell? ⟨W.heap.size, 3, none⟩ = some (.int .i64 x.f3)) (first | assumption | exact impl_latticeMats.held_drew hS1 | go_keep)
   (first | (go_at_call 124; (with_reducible refine (C1.out _ ?_).mono ?_); (assumption); rintro e w' ⟨rfl, hS'⟩) | (go_at_call 93; (with_reducible refine (C2.out _ ?_).mono ?_); (assumption); rintro e w' ⟨rfl, hS'⟩) | (go_at_call 124; (with_reducible refine (C3.out _ ?_).mono ?_); (assumption); rintro e w' ⟨rfl, hS'⟩) | (go_at_call 93; (with_reducible refine (C4.out _ ?_).mono ?_); (assumption); rintro e w' ⟨rfl, hS'⟩))) | (fail "held3")
  all_goals go_wp2
  all_goals go_ret
  all_goals exact ⟨by first | rfl | (cases r2 <;> rfl), (show impl_latticeMats.Held W a b c L U V W.heap.size x _ by assumption).1⟩
set_option maxHeartbeats 4000000 in
set_option maxRecDepth 100000 in
theorem impl_latticeMats.calls (k : Nat) (a0 : Int) (a1_0 : Int) (a1_1 : Int) (a1_2 : Int) (r : List S33) (w : World) (h : impl_latticeMats.f k a0 a1_0 a1_1 a1_2 = some r) :
  Calls Try.prog 83 #[.int .i64 a0, .agg #[.int .i64 a1_0, .int .i64 a1_1, .int .i64 a1_2]] w fun e w' => ∃ v0_ : Value, e = .returned (v0_) ∧ Kd.R k33 33 w' w.heap.size (fun _ => True) v0_ r ∧ Below w.heap.size w w' := by
 have hu34 := Try.underlying34
 have hu31 := Try.underlying31
 unfold impl_latticeMats.f at h
 by_cases ha : a1_0 = 0
 ·rw [if_pos ha] at h; cases h
 rw [if_neg ha] at h
 by_cases hc : a1_2 = 0
 ·rw [if_pos hc] at h; cases h
 rw [if_neg hc] at h
 obtain ⟨l, h1, h2⟩ := Option.bind_eq_some_iff.1 h
 have hr := Option.some.inj h2
 subst hr
 have A1 := Aside0.mk h1
 have HA := Aside0.mk ha
 have HC := Aside0.mk hc
 have ABS := Aside0.mk (show impl_Lattice_basis.f a1_0 a1_1 a1_2 = some (a1_0, 0, a1_1, a1_2) from rfl)
 clear h h1 h2 ha hc
 have eg : ∀ args w, (callFunc 123 args).run Try.prog w = .ok (.enter 123 args) w := enters_of Try.func123 (by kernel_rfl) rfl
 have EG := Aside0.mk eg
 clear eg
 go_enter Try.func83, Try.ntmps83
 go_wp2_with (first | (go_at_call 103; (with_reducible refine (impl_Lattice_basis.calls _ _ _ _ _ _ _ _ ABS.out).mono ?_); rintro e w2 ⟨rfl, hb2⟩; have HB2 := Aside0.mk (below_then (below_alloc (Below.refl w.heap.size w) _) (below_alloc (Below.refl w.heap.size w) _).size hb2); have HL := Aside0.mk hb2; clear hb2) | (go_at_call 122; (with_reducible refine (impl_pointMats.calls k a0 l _ A1.out).mono ?_); rintro e w3 ⟨v0, rfl, hR, hb3⟩; have HR3 := Aside0.mk hR; have HB3 := Aside0.mk hb3; clear hR hb3))
 obtain ⟨wA, hwA⟩ : ∃ wA, wA = (w2.alloc (.cells #[.int .i64 a1_0, .int .i64 0] 34)).alloc (.cells #[.int .i64 a1_1, .int .i64 a1_2] 34) := ⟨_, rfl⟩
 have hAB : Below w2.heap.size w2 wA := by rw [hwA]; exact below_alloc (below_alloc (Below.refl _ _) _) _
 have hl : ∀ o v, (w.alloc (.cells #[.int .i64 a1_0, .int .i64 a1_1, .int .i64 a1_2] 31)).cell? ⟨w.heap.size, o, none⟩ = some v → wA.cell? ⟨w.heap.size, o, none⟩ = some v := fun o v hv => by
  have h1 : w2.cell? ⟨w.heap.size, o, none⟩ = some v := (HL.out.cell (p := ⟨w.heap.size, o, none⟩) (by simp)).trans hv
  exact (hAB.cell (World.block_lt_of_cell? w2 _ h1)).trans h1
 have hl0 := hl 0 (.int .i64 a1_0) (by simp)
 have hl1 := hl 1 (.int .i64 a1_1) (by simp)
 have hl2 := hl 2 (.int .i64 a1_2) (by simp)
 have hu0 : wA.cell? ⟨w2.heap.size, 0, none⟩ = some (.int .i64 a1_0) := by rw [hwA]; simp
 have hu1 : wA.cell? ⟨w2.heap.size, 1, none⟩ = some (.int .i64 0) := by rw [hwA]; simp
 have hv0 : wA.cell? ⟨w2.heap.size + 1, 0, none⟩ = some (.int .i64 a1_1) := by rw [hwA]; simp
 have hv1 : wA.cell? ⟨w2.heap.size + 1, 1, none⟩ = some (.int .i64 a1_2) := by rw [hwA]; simp
 have hBA : Below w.heap.size w wA := below_then HB2.out HB2.out.size hAB
 have HR4 := HR3.out
 have HB4 := HB3.out
 rw [← hwA] at HR4 HB4
 have up : ∀ (W : World) (p : Addr) (v : Value), Below wA.heap.size wA W → wA.cell? p = some v → W.cell? p = some v := fun W p v hb h => (hb.cell (World.block_lt_of_cell? wA _ h)).trans h
 refine (impl_Mat_121.calls (fun x => !(impl_latticeMats.keep a1_0 a1_1 a1_2 x)) 123 #[.pointer (some ⟨w.heap.size, 0, none⟩), .pointer (some ⟨w2.heap.size, 0, none⟩), .pointer (some ⟨w2.heap.size + 1, 0, none⟩)] EG.out (fun k_ => wA.heap.size ≤ k_) v0 l wA w3 HB4 (Kd.R_mono (Kd.R_bound HR4) (fun k_ hk => hk.2.1)) (fun x W hb _ => impl_latticeMats.pred a1_0 a1_1 a1_2 w.heap.size w2.heap.size (w2.heap.size + 1) W (up W _ _ hb hl0) (up W _ _ hb hl1) (up W _ _ hb hl2) (up W _ _ hb hu0) (up W _ _ hb hu1) (up W _ _ hb hv0) (up W _ _ hb hv1) HA.out HC.out x)).mono ?_
 rintro e w4 ⟨v', rfl, hR4, hb4, _⟩
 have HR5 := Aside0.mk hR4
 have HB5 := Aside0.mk hb4
 have HBA := Aside0.mk hBA
 clear hl hl0 hl1 hl2 hu0 hu1 hv0 hv1 hAB hBA HR4 HB4 up hR4 hb4 hwA
 go_wp2
 go_ret
 refine ⟨_, rfl, ?_, below_then HBA.out HBA.out.size HB5.out⟩
 have hf : (l.filter fun x => !(!(impl_latticeMats.keep a1_0 a1_1 a1_2 x))) = l.filter (impl_latticeMats.keep a1_0 a1_1 a1_2) := by congr 1; funext x; simp
 have := HR5.out
 rw [hf] at this
 exact Kd.R_mono (Kd.R_lower this HBA.out.size) (fun _ _ => trivial)

/-! ### impl_compareNumbers: function 142 -/
def impl_compareNumbers.l0 : Nat → List Int → List Int → Int → Int → Option (Int)
 | 0, _, _, _, _ => none
 | k + 1, x0, x1, x7, x8 => if x8 < x7 then (if 0 ≤ x8 then (if x8 < (x0.length : Int) then (if x8 < (x1.length : Int) then (if (rd x0 x8) = (rd x1 x8) then (impl_compareNumbers.l0 k x0 x1 x7 (wrap64 (x8 + 1))) else (if (rd x0 x8) < (rd x1 x8) then (some (-1)) else (some 1))) else (none)) else (none)) else (none)) else (some 0)
def impl_compareNumbers.f (k : Nat) (l0 : List Int) (l1 : List Int) : Option (Int) := impl_compareNumbers.l0 k l0 l1 (l0.length : Int) 0
set_option maxHeartbeats 8000000 in
set_option maxRecDepth 100000 in
theorem impl_compareNumbers.calls (k : Nat) (A0 : Option Addr) (c0 : Nat) (l0 : List Int) (A1 : Option Addr) (c1 : Nat) (l1 : List Int) (r : Int) (w : World) (hr0 : Kd.C (Kd.int .i64) w A0 l0.length l0) (hc0 : l0.length ≤ c0) (hr1 : Kd.C (Kd.int .i64) w A1 l1.length l1) (hc1 : l1.length ≤ c1) (h : impl_compareNumbers.f k l0 l1 = some r) :
  Calls Try.prog 142 #[.slice A0 l0.length c0, .slice A1 l1.length c1] w fun e w' => e = .returned (.int .i64 r) ∧ Drawn0 w w' := by
 have HR0 := Aside0.mk hr0
 have HC0 := Aside0.mk hc0
 clear hr0 hc0
 have HR1 := Aside0.mk hr1
 have HC1 := Aside0.mk hc1
 clear hr1 hc1
 have H : (impl_compareNumbers.l0 k l0 l1 (l0.length : Int) 0) = some r := h
 clear h
 have H' := Aside0.mk H
 clear H
 go_enter Try.func142, Try.ntmps142
 go_wp2
 repeat (go_quiet (fail); try go_wp2)
 go_loopg [8] k (fun kq v8 w' => ∃ (x8_1 : Int), v8 = .int .i64 x8_1 ∧ Aside0 (impl_compareNumbers.l0 kq l0 l1 (l0.length : Int) x8_1 = some r) ∧ Aside0 (kq ≤ k) ∧ Drawn0 w w')
 case atStart => exact ⟨(0), (by first | rfl | (simp; done) | (simp [*]; done)), H', ⟨Nat.le_refl _⟩, by repeat (first | exact Drawn0.refl _ | apply Drawn0.step)⟩
 case round =>
  clear H'
  try clear c1
  try clear p2
  obtain ⟨x8_1, rfl, HA, HK1, ⟨m1, rfl⟩⟩ := hrel
  cases gk with
  | zero => exact absurd HA.out (by simp [impl_compareNumbers.l0])
  | succ k1 =>
   have H := HA.out
   clear HA
   simp only [impl_compareNumbers.l0] at H
   by_cases c3 : x8_1 < (l0.length : Int)
   ·rw [if_pos c3] at H
    have c3b0 : decide (x8_1 < (l0.length : Int)) = true := decide_eq_true c3
    clear c3
    by_cases c4 : 0 ≤ x8_1
    ·rw [if_pos c4] at H
     have c4b0 : decide (0 ≤ x8_1) = true := decide_eq_true c4
     clear c4
     by_cases c5 : x8_1 < (l0.length : Int)
     ·rw [if_pos c5] at H
      have c5b0 : decide (x8_1 < (l0.length : Int)) = true := decide_eq_true c5
      clear c5
      by_cases c6 : x8_1 < (l1.length : Int)
      ·rw [if_pos c6] at H
       have c6b0 : decide (x8_1 < (l1.length : Int)) = true := decide_eq_true c6
       clear c6
       by_cases c7 : (rd l0 x8_1) = (rd l1 x8_1)
       ·rw [if_pos c7] at H
        have c7b0 : ((rd l0 x8_1) == (rd l1 x8_1)) = true := beq_iff_eq.mpr c7
        have c7b1 : ((rd l0 x8_1) != (rd l1 x8_1)) = false := bne_eq_false_iff_eq.mpr c7
        clear c7
        have H' := Aside0.mk H
        clear H
        have p372 : 0 ≤ (x8_1 : Int) := of_decide_eq_true (by first | (with_reducible assumption) | assumption)
        have q372 : x8_1 < (l0.length : Int) := of_decide_eq_true (by first | (with_reducible assumption) | assumption)
        obtain ⟨ad372, e372, hx372_0⟩ := Kd.at_int HR0.out x8_1 p372 q372
        cases e372
        replace p372 := eq_true p372
        replace q372 := eq_true q372
        have p373 : 0 ≤ (x8_1 : Int) := of_decide_eq_true (by first | (with_reducible assumption) | assumption)
        have q373 : x8_1 < (l1.length : Int) := of_decide_eq_true (by first | (with_reducible assumption) | assumption)
        obtain ⟨ad373, e373, hx373_0⟩ := Kd.at_int HR1.out x8_1 p373 q373
        cases e373
        replace p373 := eq_true p373
        replace q373 := eq_true q373
        go_wp2
        repeat (go_quiet (fail); try go_wp2)
        go_roundg k1
        case measure => have := HK1.out; omega
        case rel => exact ⟨(wrap64 (x8_1 + 1)), (by first | rfl | (simp; done) | (simp [*]; done)), H', ⟨by have := HK1.out; omega⟩, by repeat (first | exact Drawn0.refl _ | apply Drawn0.step)⟩
       ·rw [if_neg c7] at H
        have c7b0 : ((rd l0 x8_1) == (rd l1 x8_1)) = false := beq_eq_false_iff_ne.mpr c7
        have c7b1 : ((rd l0 x8_1) != (rd l1 x8_1)) = true := bne_iff_ne.mpr c7
        by_cases c8 : (rd l0 x8_1) < (rd l1 x8_1)
        ·rw [if_pos c8] at H
         have c8b0 : decide ((rd l0 x8_1) < (rd l1 x8_1)) = true := decide_eq_true c8
         clear c8
         obtain rfl := Option.some.inj H
         have p372 : 0 ≤ (x8_1 : Int) := of_decide_eq_true (by first | (with_reducible assumption) | assumption)
         have q372 : x8_1 < (l0.length : Int) := of_decide_eq_true (by first | (with_reducible assumption) | assumption)
         obtain ⟨ad372, e372, hx372_0⟩ := Kd.at_int HR0.out x8_1 p372 q372
         cases e372
         replace p372 := eq_true p372
         replace q372 := eq_true q372
         have p373 : 0 ≤ (x8_1 : Int) := of_decide_eq_true (by first | (with_reducible assumption) | assumption)
         have q373 : x8_1 < (l1.length : Int) := of_decide_eq_true (by first | (with_reducible assumption) | assumption)
         obtain ⟨ad373, e373, hx373_0⟩ := Kd.at_int HR1.out x8_1 p373 q373
         cases e373
         replace p373 := eq_true p373
         replace q373 := eq_true q373
         have p374 : 0 ≤ (x8_1 : Int) := of_decide_eq_true (by first | (with_reducible assumption) | assumption)
         have q374 : x8_1 < (l0.length : Int) := of_decide_eq_true (by first | (with_reducible assumption) | assumption)
         obtain ⟨ad374, e374, hx374_0⟩ := Kd.at_int HR0.out x8_1 p374 q374
         obtain rfl : ad372 = ad374 := (by injection e374)
         replace p374 := eq_true p374
         replace q374 := eq_true q374
         have p375 : 0 ≤ (x8_1 : Int) := of_decide_eq_true (by first | (with_reducible assumption) | assumption)
         have q375 : x8_1 < (l1.length : Int) := of_decide_eq_true (by first | (with_reducible assumption) | assumption)
         obtain ⟨ad375, e375, hx375_0⟩ := Kd.at_int HR1.out x8_1 p375 q375
         obtain rfl : ad373 = ad375 := (by injection e375)
         replace p375 := eq_true p375
         replace q375 := eq_true q375
         go_wp2
         repeat (go_quiet (fail); try go_wp2)
         go_ret
         exact ⟨by first | rfl | (simp; done) | (simp [*]; done), by repeat (first | exact Drawn0.refl _ | apply Drawn0.step)⟩
        ·rw [if_neg c8] at H
         have c8b0 : decide ((rd l0 x8_1) < (rd l1 x8_1)) = false := decide_eq_false c8
         clear c8
         obtain rfl := Option.some.inj H
         have p372 : 0 ≤ (x8_1 : Int) := of_decide_eq_true (by first | (with_reducible assumption) | assumption)
         have q372 : x8_1 < (l0.length : Int) := of_decide_eq_true (by first | (with_reducible assumption) | assumption)
         obtain ⟨ad372, e372, hx372_0⟩ := Kd.at_int HR0.out x8_1 p372 q372
         cases e372
         replace p372 := eq_true p372
         replace q372 := eq_true q372
         have p373 : 0 ≤ (x8_1 : Int) := of_decide_eq_true (by first | (with_reducible assumption) | assumption)
         have q373 : x8_1 < (l1.length : Int) := of_decide_eq_true (by first | (with_reducible assumption) | assumption)
         obtain ⟨ad373, e373, hx373_0⟩ := Kd.at_int HR1.out x8_1 p373 q373
         cases e373
         replace p373 := eq_true p373
         replace q373 := eq_true q373
         have p374 : 0 ≤ (x8_1 : Int) := of_decide_eq_true (by first | (with_reducible assumption) | assumption)
         have q374 : x8_1 < (l0.length : Int) := of_decide_eq_true (by first | (with_reducible assumption) | assumption)
         obtain ⟨ad374, e374, hx374_0⟩ := Kd.at_int HR0.out x8_1 p374 q374
         obtain rfl : ad372 = ad374 := (by injection e374)
         replace p374 := eq_true p374
         replace q374 := eq_true q374
         have p375 : 0 ≤ (x8_1 : Int) := of_decide_eq_true (by first | (with_reducible assumption) | assumption)
         have q375 : x8_1 < (l1.length : Int) := of_decide_eq_true (by first | (with_reducible assumption) | assumption)
         obtain ⟨ad375, e375, hx375_0⟩ := Kd.at_int HR1.out x8_1 p375 q375
         obtain rfl : ad373 = ad375 := (by injection e375)
         replace p375 := eq_true p375
         replace q375 := eq_true q375
         go_wp2
         repeat (go_quiet (fail); try go_wp2)
         go_ret
         exact ⟨by first | rfl | (simp; done) | (simp [*]; done), by repeat (first | exact Drawn0.refl _ | apply Drawn0.step)⟩
      ·rw [if_neg c6] at H
       exact absurd H (by simp)
     ·rw [if_neg c5] at H
      exact absurd H (by simp)
    ·rw [if_neg c4] at H
     exact absurd H (by simp)
   ·rw [if_neg c3] at H
    have c3b0 : decide (x8_1 < (l0.length : Int)) = false := decide_eq_false c3
    clear c3
    obtain rfl := Option.some.inj H
    go_wp2
    repeat (go_quiet (fail); try go_wp2)
    go_ret
    exact ⟨by first | rfl | (simp; done) | (simp [*]; done), by repeat (first | exact Drawn0.refl _ | apply Drawn0.step)⟩

/-! ### impl_compareVecs: function 130 -/
def impl_compareVecs.f (k : Nat) (a0_0 : Int) (a0_1 : Int) (a1_0 : Int) (a1_1 : Int) : Option (Int) := (impl_compareNumbers.f k (([a0_0, a0_1] : List Int)) (([a1_0, a1_1] : List Int))).bind fun t384 => (some t384)
set_option maxHeartbeats 8000000 in
set_option maxRecDepth 100000 in
theorem impl_compareVecs.calls (k : Nat) (a0_0 : Int) (a0_1 : Int) (a1_0 : Int) (a1_1 : Int) (r : Int) (w : World) (h : impl_compareVecs.f k a0_0 a0_1 a1_0 a1_1 = some r) :
  Calls Try.prog 130 #[.agg #[.int .i64 a0_0, .int .i64 a0_1], .agg #[.int .i64 a1_0, .int .i64 a1_1]] w fun e w' => e = .returned (.int .i64 r) ∧ Below w.heap.size w w' := by
 have hu34 := Try.underlying34
 have HB := Aside0.mk (Below.refl w.heap.size w)
 have H : ((impl_compareNumbers.f k (([a0_0, a0_1] : List Int)) (([a1_0, a1_1] : List Int))).bind fun t384 => (some t384)) = some r := h
 clear h
 obtain ⟨y378, hy378⟩ : ∃ y_ : List Int, y_ = (([a0_0, a0_1] : List Int)) := ⟨_, rfl⟩
 replace H : ((impl_compareNumbers.f k y378 (([a1_0, a1_1] : List Int))).bind fun t384 => (some t384)) = some r := by first | (rw [hy378]; with_reducible exact H) | (have H2_ := (Option.bind_some _ _).symm.trans H; rw [hy378]; with_reducible exact H2_) | (have H2_ := (Option.bind_some _ _).symm.trans H; with_reducible exact H2_) | with_reducible exact H | (rw [hy378]; exact H) | exact H
 have Ny378 := Aside0.mk hy378
 clear hy378
 obtain ⟨y381, hy381⟩ : ∃ y_ : List Int, y_ = (([a1_0, a1_1] : List Int)) := ⟨_, rfl⟩
 replace H : ((impl_compareNumbers.f k y378 y381).bind fun t384 => (some t384)) = some r := by first | (rw [hy381]; with_reducible exact H) | (have H2_ := (Option.bind_some _ _).symm.trans H; rw [hy381]; with_reducible exact H2_) | (have H2_ := (Option.bind_some _ _).symm.trans H; with_reducible exact H2_) | with_reducible exact H | (rw [hy381]; exact H) | exact H
 have Ny381 := Aside0.mk hy381
 clear hy381
 replace H := Option.bind_eq_some_iff.mp H
 obtain ⟨t384, A30, H⟩ := H
 replace H : (some t384) = some r := H
 have A3 := Aside0.mk A30
 clear A30
 obtain rfl := Option.some.inj H
 go_enter Try.func130, Try.ntmps130
 go_wp2_with (first | ((with_reducible refine gate_dst (N := 2) rfl ?_); refine box_event ?hg (N := 2) ?hd (cs := #[.int .i64 a0_0, .int .i64 a0_1]) (t := 34) ?hr ?_; (case hd => rfl); (case hg => rfl); (case hr => first | (go_simp; done) | (go_simp; rfl)); intro gb376 hg w4 hbox hb; have BK376 := Aside0.mk (hbox); have GW376 := ngw0 hg HB; have GE376 := ngw0 hg HB; replace HB := Aside0.mk (bst0 HB hb); clear hb hbox hg) | ((with_reducible refine gate_dst (N := 3) rfl ?_); refine box_event ?hg (N := 3) ?hd (cs := #[.int .i64 a1_0, .int .i64 a1_1]) (t := 34) ?hr ?_; (case hd => rfl); (case hg => rfl); (case hr => first | (go_simp; done) | (go_simp; rfl)); intro gb377 hg w5 hbox hb; have BK377 := Aside0.mk (hbox); have GW377 := ngw1 hg HB GE376; have GE377 := ngw1 hg HB GE376; replace HB := Aside0.mk (bst1 HB GE376 hb); have NB376_377 := nlt hg BK376; have NB377_376 := nsy (nlt hg BK376); replace BK376 := Aside0.mk (bbl BK376 hb); clear hb hbox hg; have hnb6 := NB376_377.out; have hnc6 := NB377_376.out; obtain ⟨hcz7_0, hcz7_1, hfz7_0, hfz7_1⟩ := bz2 BK376) | ((with_reducible refine gate_dst (N := 9) rfl ?_); refine Kd.R_lit (Kd.int .i64) _ 2 ?hg (N := 9) ?hd (xs := ([a0_0, a0_1] : List Int)) (inner := [.int .i64 a0_0, .int .i64 a0_1]) (ok := fun _ => True) (okp := fun _ => True) ?hr ?hp (fun _ hk => hk) trivial (Below.refl _ _) (Nat.le_refl _) (by simp) ?_; (case hd => rfl); (case hg => rfl); (case hr => first | (go_simp; done) | (go_simp; rfl)); (case hp => exact (Reps.one (show Kd.M (Kd.int .i64) _ _ _ a0_0 [.int .i64 a0_0] from rfl) (Reps.one (show Kd.M (Kd.int .i64) _ _ _ a0_1 [.int .i64 a0_1] from rfl) (Reps.none _ _)))); intro v379 w8 ho9 hb hg_ hnew_; clear hg_ hnew_; (first | rw [← Ny378.out] at ho9 | (simp only [Int.reduceToNat] at ho9; rw [← Ny378.out] at ho9)); have HO380 := Aside0.mk (Kd.R_lower ho9 (bsz2 HB GE376 GE377)); replace BK376 := Aside0.mk (bbl BK376 hb); replace BK377 := Aside0.mk (bbl BK377 hb); replace HB := Aside0.mk (bst2 HB GE376 GE377 hb); clear hb ho9; obtain ⟨hcz10_0, hcz10_1, hfz10_0, hfz10_1⟩ := bz2 BK377) | ((with_reducible refine gate_dst (N := 14) rfl ?_); refine Kd.R_lit (Kd.int .i64) _ 2 ?hg (N := 14) ?hd (xs := ([a1_0, a1_1] : List Int)) (inner := [.int .i64 a1_0, .int .i64 a1_1]) (ok := fun _ => True) (okp := fun _ => True) ?hr ?hp (fun _ hk => hk) trivial (Below.refl _ _) (Nat.le_refl _) (by simp) ?_; (case hd => rfl); (case hg => rfl); (case hr => first | (go_simp; done) | (go_simp; rfl)); (case hp => exact (Reps.one (show Kd.M (Kd.int .i64) _ _ _ a1_0 [.int .i64 a1_0] from rfl) (Reps.one (show Kd.M (Kd.int .i64) _ _ _ a1_1 [.int .i64 a1_1] from rfl) (Reps.none _ _)))); intro v382 w11 ho12 hb hg_ hnew_; clear hg_ hnew_; (first | rw [← Ny381.out] at ho12 | (simp only [Int.reduceToNat] at ho12; rw [← Ny381.out] at ho12)); have HO383 := Aside0.mk (Kd.R_lower (Kd.R_new' ho12 (Kd.R_lt (by (with_reducible repeat (first | apply Kd.R_alloc | apply Kd.R_drewN | apply Kd.R_drew)); exact HO380.out))) (bsz2 HB GE376 GE377)); replace HO380 := Aside0.mk (Kd.R_elder' (by (with_reducible repeat (first | apply Kd.R_alloc | apply Kd.R_drewN | apply Kd.R_drew)); exact HO380.out) (Kd.R_base ho12) hb); replace BK376 := Aside0.mk (bbl BK376 hb); replace BK377 := Aside0.mk (bbl BK377 hb); replace HB := Aside0.mk (bst2 HB GE376 GE377 hb); clear hb ho12; obtain ⟨Ao13, co13, eo13⟩ := Kd.R_slice HO380.out; subst eo13; obtain ⟨Ao14, co14, eo14⟩ := Kd.R_slice HO383.out; subst eo14) | ((with_reducible refine gate_callee (f := 142) rfl ?_); refine goesL_ (some 15) rfl rfl Try.func142 (by kernel_rfl) rfl #[.slice Ao13 y378.length co13, .slice Ao14 y381.length co14] rfl (by (try simp only [List.map_toArray, List.map_cons, List.map_nil]); first | done | rfl | (simp only [List.length_drop, List.length_take]; rfl)) ?_; (with_reducible refine (impl_compareNumbers.calls k _ _ y378 _ _ y381 t384 _ ?side1 ?side2 ?side3 ?side4 A3.out).mono ?_); (case side1 => repeat (first | exact (Kd.R_reads' HO380.out).2.2 | (with_reducible refine Kd.C_alloc ?_ _) | (with_reducible refine Kd.C_drewN ?_ _) | (with_reducible refine Kd.C_drew ?_))); (case side2 => exact (Kd.R_reads' HO380.out).2.1); (case side3 => repeat (first | exact (Kd.R_reads' HO383.out).2.2 | (with_reducible refine Kd.C_alloc ?_ _) | (with_reducible refine Kd.C_drewN ?_ _) | (with_reducible refine Kd.C_drew ?_))); (case side4 => exact (Kd.R_reads' HO383.out).2.1); rintro e w' ⟨rfl, ⟨nd, rfl⟩⟩; refine ⟨_, rfl, ?_⟩))
 go_ret
 exact ⟨by first | rfl | (simp [errW_none, errW_some] <;> rfl) | (simp [*, errW_none, errW_some] <;> rfl), bbw2 HB GE376 GE377⟩

/-! ### impl_compareMats: function 135 -/
def impl_compareMats.f (k : Nat) (a0_0 : Int) (a0_1 : Int) (a0_2 : Int) (a0_3 : Int) (a1_0 : Int) (a1_1 : Int) (a1_2 : Int) (a1_3 : Int) : Option (Int) := (impl_compareNumbers.f k (([a0_0, a0_1, a0_2, a0_3] : List Int)) (([a1_0, a1_1, a1_2, a1_3] : List Int))).bind fun t393 => (some t393)
set_option maxHeartbeats 8000000 in
set_option maxRecDepth 100000 in
theorem impl_compareMats.calls (k : Nat) (a0_0 : Int) (a0_1 : Int) (a0_2 : Int) (a0_3 : Int) (a1_0 : Int) (a1_1 : Int) (a1_2 : Int) (a1_3 : Int) (r : Int) (w : World) (h : impl_compareMats.f k a0_0 a0_1 a0_2 a0_3 a1_0 a1_1 a1_2 a1_3 = some r) :
  Calls Try.prog 135 #[.agg #[.int .i64 a0_0, .int .i64 a0_1, .int .i64 a0_2, .int .i64 a0_3], .agg #[.int .i64 a1_0, .int .i64 a1_1, .int .i64 a1_2, .int .i64 a1_3]] w fun e w' => e = .returned (.int .i64 r) ∧ Below w.heap.size w w' := by
 have hu33 := Try.underlying33
 have HB := Aside0.mk (Below.refl w.heap.size w)
 have H : ((impl_compareNumbers.f k (([a0_0, a0_1, a0_2, a0_3] : List Int)) (([a1_0, a1_1, a1_2, a1_3] : List Int))).bind fun t393 => (some t393)) = some r := h
 clear h
 obtain ⟨y387, hy387⟩ : ∃ y_ : List Int, y_ = (([a0_0, a0_1, a0_2, a0_3] : List Int)) := ⟨_, rfl⟩
 replace H : ((impl_compareNumbers.f k y387 (([a1_0, a1_1, a1_2, a1_3] : List Int))).bind fun t393 => (some t393)) = some r := by first | (rw [hy387]; with_reducible exact H) | (have H2_ := (Option.bind_some _ _).symm.trans H; rw [hy387]; with_reducible exact H2_) | (have H2_ := (Option.bind_some _ _).symm.trans H; with_reducible exact H2_) | with_reducible exact H | (rw [hy387]; exact H) | exact H
 have Ny387 := Aside0.mk hy387
 clear hy387
 obtain ⟨y390, hy390⟩ : ∃ y_ : List Int, y_ = (([a1_0, a1_1, a1_2, a1_3] : List Int)) := ⟨_, rfl⟩
 replace H : ((impl_compareNumbers.f k y387 y390).bind fun t393 => (some t393)) = some r := by first | (rw [hy390]; with_reducible exact H) | (have H2_ := (Option.bind_some _ _).symm.trans H; rw [hy390]; with_reducible exact H2_) | (have H2_ := (Option.bind_some _ _).symm.trans H; with_reducible exact H2_) | with_reducible exact H | (rw [hy390]; exact H) | exact H
 have Ny390 := Aside0.mk hy390
 clear hy390
 replace H := Option.bind_eq_some_iff.mp H
 obtain ⟨t393, A30, H⟩ := H
 replace H : (some t393) = some r := H
 have A3 := Aside0.mk A30
 clear A30
 obtain rfl := Option.some.inj H
 go_enter Try.func135, Try.ntmps135
 go_wp2_with (first | ((with_reducible refine gate_dst (N := 2) rfl ?_); refine box_event ?hg (N := 2) ?hd (cs := #[.int .i64 a0_0, .int .i64 a0_1, .int .i64 a0_2, .int .i64 a0_3]) (t := 33) ?hr ?_; (case hd => rfl); (case hg => rfl); (case hr => first | (go_simp; done) | (go_simp; rfl)); intro gb385 hg w4 hbox hb; have BK385 := Aside0.mk (hbox); have GW385 := ngw0 hg HB; have GE385 := ngw0 hg HB; replace HB := Aside0.mk (bst0 HB hb); clear hb hbox hg) | ((with_reducible refine gate_dst (N := 3) rfl ?_); refine box_event ?hg (N := 3) ?hd (cs := #[.int .i64 a1_0, .int .i64 a1_1, .int .i64 a1_2, .int .i64 a1_3]) (t := 33) ?hr ?_; (case hd => rfl); (case hg => rfl); (case hr => first | (go_simp; done) | (go_simp; rfl)); intro gb386 hg w5 hbox hb; have BK386 := Aside0.mk (hbox); have GW386 := ngw1 hg HB GE385; have GE386 := ngw1 hg HB GE385; replace HB := Aside0.mk (bst1 HB GE385 hb); have NB385_386 := nlt hg BK385; have NB386_385 := nsy (nlt hg BK385); replace BK385 := Aside0.mk (bbl BK385 hb); clear hb hbox hg; have hnb6 := NB385_386.out; have hnc6 := NB386_385.out; obtain ⟨hcz7_0, hcz7_1, hcz7_2, hcz7_3, hfz7_0, hfz7_1, hfz7_2, hfz7_3⟩ := bz4 BK385) | ((with_reducible refine gate_dst (N := 13) rfl ?_); refine Kd.R_lit (Kd.int .i64) _ 2 ?hg (N := 13) ?hd (xs := ([a0_0, a0_1, a0_2, a0_3] : List Int)) (inner := [.int .i64 a0_0, .int .i64 a0_1, .int .i64 a0_2, .int .i64 a0_3]) (ok := fun _ => True) (okp := fun _ => True) ?hr ?hp (fun _ hk => hk) trivial (Below.refl _ _) (Nat.le_refl _) (by simp) ?_; (case hd => rfl); (case hg => rfl); (case hr => first | (go_simp; done) | (go_simp; rfl)); (case hp => exact (Reps.one (show Kd.M (Kd.int .i64) _ _ _ a0_0 [.int .i64 a0_0] from rfl) (Reps.one (show Kd.M (Kd.int .i64) _ _ _ a0_1 [.int .i64 a0_1] from rfl) (Reps.one (show Kd.M (Kd.int .i64) _ _ _ a0_2 [.int .i64 a0_2] from rfl) (Reps.one (show Kd.M (Kd.int .i64) _ _ _ a0_3 [.int .i64 a0_3] from rfl) (Reps.none _ _)))))); intro v388 w8 ho9 hb hg_ hnew_; clear hg_ hnew_; (first | rw [← Ny387.out] at ho9 | (simp only [Int.reduceToNat] at ho9; rw [← Ny387.out] at ho9)); have HO389 := Aside0.mk (Kd.R_lower ho9 (bsz2 HB GE385 GE386)); replace BK385 := Aside0.mk (bbl BK385 hb); replace BK386 := Aside0.mk (bbl BK386 hb); replace HB := Aside0.mk (bst2 HB GE385 GE386 hb); clear hb ho9; obtain ⟨hcz10_0, hcz10_1, hcz10_2, hcz10_3, hfz10_0, hfz10_1, hfz10_2, hfz10_3⟩ := bz4 BK386) | ((with_reducible refine gate_dst (N := 22) rfl ?_); refine Kd.R_lit (Kd.int .i64) _ 2 ?hg (N := 22) ?hd (xs := ([a1_0, a1_1, a1_2, a1_3] : List Int)) (inner := [.int .i64 a1_0, .int .i64 a1_1, .int .i64 a1_2, .int .i64 a1_3]) (ok := fun _ => True) (okp := fun _ => True) ?hr ?hp (fun _ hk => hk) trivial (Below.refl _ _) (Nat.le_refl _) (by simp) ?_; (case hd => rfl); (case hg => rfl); (case hr => first | (go_simp; done) | (go_simp; rfl)); (case hp => exact (Reps.one (show Kd.M (Kd.int .i64) _ _ _ a1_0 [.int .i64 a1_0] from rfl) (Reps.one (show Kd.M (Kd.int .i64) _ _ _ a1_1 [.int .i64 a1_1] from rfl) (Reps.one (show Kd.M (Kd.int .i64) _ _ _ a1_2 [.int .i64 a1_2] from rfl) (Reps.one (show Kd.M (Kd.int .i64) _ _ _ a1_3 [.int .i64 a1_3] from rfl) (Reps.none _ _)))))); intro v391 w11 ho12 hb hg_ hnew_; clear hg_ hnew_; (first | rw [← Ny390.out] at ho12 | (simp only [Int.reduceToNat] at ho12; rw [← Ny390.out] at ho12)); have HO392 := Aside0.mk (Kd.R_lower (Kd.R_new' ho12 (Kd.R_lt (by (with_reducible repeat (first | apply Kd.R_alloc | apply Kd.R_drewN | apply Kd.R_drew)); exact HO389.out))) (bsz2 HB GE385 GE386)); replace HO389 := Aside0.mk (Kd.R_elder' (by (with_reducible repeat (first | apply Kd.R_alloc | apply Kd.R_drewN | apply Kd.R_drew)); exact HO389.out) (Kd.R_base ho12) hb); replace BK385 := Aside0.mk (bbl BK385 hb); replace BK386 := Aside0.mk (bbl BK386 hb); replace HB := Aside0.mk (bst2 HB GE385 GE386 hb); clear hb ho12; obtain ⟨Ao13, co13, eo13⟩ := Kd.R_slice HO389.out; subst eo13; obtain ⟨Ao14, co14, eo14⟩ := Kd.R_slice HO392.out; subst eo14) | ((with_reducible refine gate_callee (f := 142) rfl ?_); refine goesL_ (some 23) rfl rfl Try.func142 (by kernel_rfl) rfl #[.slice Ao13 y387.length co13, .slice Ao14 y390.length co14] rfl (by (try simp only [List.map_toArray, List.map_cons, List.map_nil]); first | done | rfl | (simp only [List.length_drop, List.length_take]; rfl)) ?_; (with_reducible refine (impl_compareNumbers.calls k _ _ y387 _ _ y390 t393 _ ?side1 ?side2 ?side3 ?side4 A3.out).mono ?_); (case side1 => repeat (first | exact (Kd.R_reads' HO389.out).2.2 | (with_reducible refine Kd.C_alloc ?_ _) | (with_reducible refine Kd.C_drewN ?_ _) | (with_reducible refine Kd.C_drew ?_))); (case side2 => exact (Kd.R_reads' HO389.out).2.1); (case side3 => repeat (first | exact (Kd.R_reads' HO392.out).2.2 | (with_reducible refine Kd.C_alloc ?_ _) | (with_reducible refine Kd.C_drewN ?_ _) | (with_reducible refine Kd.C_drew ?_))); (case side4 => exact (Kd.R_reads' HO392.out).2.1); rintro e w' ⟨rfl, ⟨nd, rfl⟩⟩; refine ⟨_, rfl, ?_⟩))
 go_ret
 exact ⟨by first | rfl | (simp [errW_none, errW_some] <;> rfl) | (simp [*, errW_none, errW_some] <;> rfl), bbw2 HB GE385 GE386⟩

/-! ### impl_compareMotions: function 112 -/
def impl_compareMotions.f (k : Nat) (a0_0 : Int) (a0_1 : Int) (a0_2 : Int) (a0_3 : Int) (a0_4 : Int) (a0_5 : Int) (a1_0 : Int) (a1_1 : Int) (a1_2 : Int) (a1_3 : Int) (a1_4 : Int) (a1_5 : Int) : Option (Int) := (impl_compareMats.f k a0_0 a0_1 a0_2 a0_3 a1_0 a1_1 a1_2 a1_3).bind fun t396 => (if t396 = 0 then ((impl_compareVecs.f k a0_4 a0_5 a1_4 a1_5).bind fun t397 => (some t397)) else (some t396))
set_option maxHeartbeats 8000000 in
set_option maxRecDepth 100000 in
theorem impl_compareMotions.calls (k : Nat) (a0_0 : Int) (a0_1 : Int) (a0_2 : Int) (a0_3 : Int) (a0_4 : Int) (a0_5 : Int) (a1_0 : Int) (a1_1 : Int) (a1_2 : Int) (a1_3 : Int) (a1_4 : Int) (a1_5 : Int) (r : Int) (w : World) (h : impl_compareMotions.f k a0_0 a0_1 a0_2 a0_3 a0_4 a0_5 a1_0 a1_1 a1_2 a1_3 a1_4 a1_5 = some r) :
  Calls Try.prog 112 #[.agg #[.int .i64 a0_0, .int .i64 a0_1, .int .i64 a0_2, .int .i64 a0_3, .int .i64 a0_4, .int .i64 a0_5], .agg #[.int .i64 a1_0, .int .i64 a1_1, .int .i64 a1_2, .int .i64 a1_3, .int .i64 a1_4, .int .i64 a1_5]] w fun e w' => e = .returned (.int .i64 r) ∧ Below w.heap.size w w' := by
 have hu36 := Try.underlying36
 have hu33 := Try.underlying33
 have hu34 := Try.underlying34
 have HB := Aside0.mk (Below.refl w.heap.size w)
 have H : ((impl_compareMats.f k a0_0 a0_1 a0_2 a0_3 a1_0 a1_1 a1_2 a1_3).bind fun t396 => (if t396 = 0 then ((impl_compareVecs.f k a0_4 a0_5 a1_4 a1_5).bind fun t397 => (some t397)) else (some t396))) = some r := h
 clear h
 replace H := Option.bind_eq_some_iff.mp H
 obtain ⟨t396, A30, H⟩ := H
 replace H : (if t396 = 0 then ((impl_compareVecs.f k a0_4 a0_5 a1_4 a1_5).bind fun t397 => (some t397)) else (some t396)) = some r := H
 have A3 := Aside0.mk A30
 clear A30
 by_cases c4 : t396 = 0
 ·rw [if_pos c4] at H
  have c4b0 : (t396 == 0) = true := beq_iff_eq.mpr c4
  have c4b1 : (t396 != 0) = false := bne_eq_false_iff_eq.mpr c4
  clear c4
  replace H := Option.bind_eq_some_iff.mp H
  obtain ⟨t397, A50, H⟩ := H
  replace H : (some t397) = some r := H
  have A5 := Aside0.mk A50
  clear A50
  obtain rfl := Option.some.inj H
  go_enter Try.func112, Try.ntmps112
  go_wp2_with (first | ((with_reducible refine gate_dst (N := 2) rfl ?_); refine box_event ?hg (N := 2) ?hd (cs := #[.int .i64 a0_0, .int .i64 a0_1, .int .i64 a0_2, .int .i64 a0_3, .int .i64 a0_4, .int .i64 a0_5]) (t := 36) ?hr ?_; (case hd => rfl); (case hg => rfl); (case hr => first | (go_simp; done) | (go_simp; rfl)); intro gb394 hg w6 hbox hb; have BK394 := Aside0.mk (hbox); have GW394 := ngw0 hg HB; have GE394 := ngw0 hg HB; replace HB := Aside0.mk (bst0 HB hb); clear hb hbox hg) | ((with_reducible refine gate_dst (N := 3) rfl ?_); refine box_event ?hg (N := 3) ?hd (cs := #[.int .i64 a1_0, .int .i64 a1_1, .int .i64 a1_2, .int .i64 a1_3, .int .i64 a1_4, .int .i64 a1_5]) (t := 36) ?hr ?_; (case hd => rfl); (case hg => rfl); (case hr => first | (go_simp; done) | (go_simp; rfl)); intro gb395 hg w7 hbox hb; have BK395 := Aside0.mk (hbox); have GW395 := ngw1 hg HB GE394; have GE395 := ngw1 hg HB GE394; replace HB := Aside0.mk (bst1 HB GE394 hb); have NB394_395 := nlt hg BK394; have NB395_394 := nsy (nlt hg BK394); replace BK394 := Aside0.mk (bbl BK394 hb); clear hb hbox hg; have hnb8 := NB394_395.out; have hnc8 := NB395_394.out; obtain ⟨hcz9_0, hcz9_1, hcz9_2, hcz9_3, hcz9_4, hcz9_5, hfz9_0, hfz9_1, hfz9_2, hfz9_3, hfz9_4, hfz9_5⟩ := bz6 BK394; obtain ⟨hcz10_0, hcz10_1, hcz10_2, hcz10_3, hcz10_4, hcz10_5, hfz10_0, hfz10_1, hfz10_2, hfz10_3, hfz10_4, hfz10_5⟩ := bz6 BK395) | ((with_reducible refine gate_callee (f := 135) rfl ?_); refine goesL_ (some 10) rfl rfl Try.func135 (by kernel_rfl) rfl #[.agg #[.int .i64 a0_0, .int .i64 a0_1, .int .i64 a0_2, .int .i64 a0_3], .agg #[.int .i64 a1_0, .int .i64 a1_1, .int .i64 a1_2, .int .i64 a1_3]] rfl (by (try simp only [List.map_toArray, List.map_cons, List.map_nil]); first | done | rfl | (simp only [List.length_drop, List.length_take]; rfl)) ?_; (with_reducible refine (impl_compareMats.calls k a0_0 a0_1 a0_2 a0_3 a1_0 a1_1 a1_2 a1_3 t396 _ A3.out).mono ?_); rintro e w11 ⟨rfl, hb⟩; refine ⟨_, rfl, ?_⟩; replace BK394 := Aside0.mk (bbl BK394 hb); replace BK395 := Aside0.mk (bbl BK395 hb); replace HB := Aside0.mk (bst2 HB GE394 GE395 hb); (try clear hb); (try clear hb2); (try clear hk); (try clear hi); obtain ⟨hcz12_0, hcz12_1, hcz12_2, hcz12_3, hcz12_4, hcz12_5, hfz12_0, hfz12_1, hfz12_2, hfz12_3, hfz12_4, hfz12_5⟩ := bz6 BK394; obtain ⟨hcz13_0, hcz13_1, hcz13_2, hcz13_3, hcz13_4, hcz13_5, hfz13_0, hfz13_1, hfz13_2, hfz13_3, hfz13_4, hfz13_5⟩ := bz6 BK395) | ((with_reducible refine gate_callee (f := 130) rfl ?_); refine goesL_ (some 18) rfl rfl Try.func130 (by kernel_rfl) rfl #[.agg #[.int .i64 a0_4, .int .i64 a0_5], .agg #[.int .i64 a1_4, .int .i64 a1_5]] rfl (by (try simp only [List.map_toArray, List.map_cons, List.map_nil]); first | done | rfl | (simp only [List.length_drop, List.length_take]; rfl)) ?_; (with_reducible refine (impl_compareVecs.calls k a0_4 a0_5 a1_4 a1_5 t397 _ A5.out).mono ?_); rintro e w14 ⟨rfl, hb⟩; refine ⟨_, rfl, ?_⟩; replace BK394 := Aside0.mk (bbl BK394 hb); replace BK395 := Aside0.mk (bbl BK395 hb); replace HB := Aside0.mk (bst2 HB GE394 GE395 hb); (try clear hb); (try clear hb2); (try clear hk); (try clear hi)))
  go_ret
  exact ⟨by first | rfl | (simp [errW_none, errW_some] <;> rfl) | (simp [*, errW_none, errW_some] <;> rfl), bbw2 HB GE394 GE395⟩
 ·rw [if_neg c4] at H
  have c4b0 : (t396 == 0) = false := beq_eq_false_iff_ne.mpr c4
  have c4b1 : (t396 != 0) = true := bne_iff_ne.mpr c4
  obtain rfl := Option.some.inj H
  go_enter Try.func112, Try.ntmps112
  go_wp2_with (first | ((with_reducible refine gate_dst (N := 2) rfl ?_); refine box_event ?hg (N := 2) ?hd (cs := #[.int .i64 a0_0, .int .i64 a0_1, .int .i64 a0_2, .int .i64 a0_3, .int .i64 a0_4, .int .i64 a0_5]) (t := 36) ?hr ?_; (case hd => rfl); (case hg => rfl); (case hr => first | (go_simp; done) | (go_simp; rfl)); intro gb394 hg w15 hbox hb; have BK394 := Aside0.mk (hbox); have GW394 := ngw0 hg HB; have GE394 := ngw0 hg HB; replace HB := Aside0.mk (bst0 HB hb); clear hb hbox hg) | ((with_reducible refine gate_dst (N := 3) rfl ?_); refine box_event ?hg (N := 3) ?hd (cs := #[.int .i64 a1_0, .int .i64 a1_1, .int .i64 a1_2, .int .i64 a1_3, .int .i64 a1_4, .int .i64 a1_5]) (t := 36) ?hr ?_; (case hd => rfl); (case hg => rfl); (case hr => first | (go_simp; done) | (go_simp; rfl)); intro gb395 hg w16 hbox hb; have BK395 := Aside0.mk (hbox); have GW395 := ngw1 hg HB GE394; have GE395 := ngw1 hg HB GE394; replace HB := Aside0.mk (bst1 HB GE394 hb); have NB394_395 := nlt hg BK394; have NB395_394 := nsy (nlt hg BK394); replace BK394 := Aside0.mk (bbl BK394 hb); clear hb hbox hg; have hnb17 := NB394_395.out; have hnc17 := NB395_394.out; obtain ⟨hcz18_0, hcz18_1, hcz18_2, hcz18_3, hcz18_4, hcz18_5, hfz18_0, hfz18_1, hfz18_2, hfz18_3, hfz18_4, hfz18_5⟩ := bz6 BK394; obtain ⟨hcz19_0, hcz19_1, hcz19_2, hcz19_3, hcz19_4, hcz19_5, hfz19_0, hfz19_1, hfz19_2, hfz19_3, hfz19_4, hfz19_5⟩ := bz6 BK395) | ((with_reducible refine gate_callee (f := 135) rfl ?_); refine goesL_ (some 10) rfl rfl Try.func135 (by kernel_rfl) rfl #[.agg #[.int .i64 a0_0, .int .i64 a0_1, .int .i64 a0_2, .int .i64 a0_3], .agg #[.int .i64 a1_0, .int .i64 a1_1, .int .i64 a1_2, .int .i64 a1_3]] rfl (by (try simp only [List.map_toArray, List.map_cons, List.map_nil]); first | done | rfl | (simp only [List.length_drop, List.length_take]; rfl)) ?_; (with_reducible refine (impl_compareMats.calls k a0_0 a0_1 a0_2 a0_3 a1_0 a1_1 a1_2 a1_3 t396 _ A3.out).mono ?_); rintro e w20 ⟨rfl, hb⟩; refine ⟨_, rfl, ?_⟩; replace BK394 := Aside0.mk (bbl BK394 hb); replace BK395 := Aside0.mk (bbl BK395 hb); replace HB := Aside0.mk (bst2 HB GE394 GE395 hb); (try clear hb); (try clear hb2); (try clear hk); (try clear hi)))
  go_ret
  exact ⟨by first | rfl | (simp [errW_none, errW_some] <;> rfl) | (simp [*, errW_none, errW_some] <;> rfl), bbw2 HB GE394 GE395⟩

/-! ### impl_unit: function 113 -/
def impl_unit.f  : Option (Int × Int × Int × Int) := some (1, 0, 0, 1)
set_option maxHeartbeats 8000000 in
set_option maxRecDepth 100000 in
theorem impl_unit.calls  (r1 : Int) (r2 : Int) (r3 : Int) (r4 : Int) (w : World) (h : impl_unit.f  = some (r1, r2, r3, r4)) :
  Calls Try.prog 113 #[] w fun e w' => e = .returned (.agg #[.int .i64 r1, .int .i64 r2, .int .i64 r3, .int .i64 r4]) ∧ Below w.heap.size w w' := by
 have hu33 := Try.underlying33
 have HB := Aside0.mk (Below.refl w.heap.size w)
 have H : (some (1, 0, 0, 1)) = some (r1, r2, r3, r4) := h
 clear h
 simp only [Option.some.injEq, Prod.mk.injEq] at H
 obtain ⟨rfl, rfl, rfl, rfl⟩ := H
 go_enter Try.func113, Try.ntmps113
 go_wp2_with (first | ((with_reducible refine gate_dst (N := 0) rfl ?_); refine box_event ?hg (N := 0) ?hd (cs := #[.int .i64 0, .int .i64 0, .int .i64 0, .int .i64 0]) (t := 33) ?hr ?_; (case hd => rfl); (case hg => rfl); (case hr => first | (go_simp; done) | (go_simp; rfl)); intro gb398 hg w1 hbox hb; have BK398 := Aside0.mk (hbox); have GW398 := ngw0 hg HB; have GE398 := ngw0 hg HB; replace HB := Aside0.mk (bst0 HB hb); clear hb hbox hg; obtain ⟨hcz2_0, hcz2_1, hcz2_2, hcz2_3, hfz2_0, hfz2_1, hfz2_2, hfz2_3⟩ := bz4 BK398))
 refine bodyPost_ret (results_cell_row rfl _ _ gb398 33 #[.int .i64 1, .int .i64 0, .int .i64 0, .int .i64 1] (0, 0) _ rfl (by (with_reducible repeat (first | refine blk_drewN ?_ _ | refine blk_drew ?_ | refine blk_alloc ?_ _)); refine blk_put (cs := #[.int .i64 1, .int .i64 0, .int .i64 0, .int .i64 0]) ?_ 3 _ rfl; (with_reducible repeat (first | refine blk_drewN ?_ _ | refine blk_drew ?_ | refine blk_alloc ?_ _)); refine blk_put (cs := #[.int .i64 1, .int .i64 0, .int .i64 0, .int .i64 0]) ?_ 2 _ rfl; (with_reducible repeat (first | refine blk_drewN ?_ _ | refine blk_drew ?_ | refine blk_alloc ?_ _)); refine blk_put (cs := #[.int .i64 1, .int .i64 0, .int .i64 0, .int .i64 0]) ?_ 1 _ rfl; (with_reducible repeat (first | refine blk_drewN ?_ _ | refine blk_drew ?_ | refine blk_alloc ?_ _)); refine blk_put (cs := #[.int .i64 0, .int .i64 0, .int .i64 0, .int .i64 0]) ?_ 0 _ rfl; (with_reducible repeat (first | refine blk_drewN ?_ _ | refine blk_drew ?_ | refine blk_alloc ?_ _)); exact BK398.out) Try.underlying33 rfl (by kernel_rfl)) rfl ?_
 exact ⟨by first | rfl | (simp [errW_none, errW_some] <;> rfl) | (simp [*, errW_none, errW_some] <;> rfl), bbw1 HB GE398⟩

/-! ### impl_Vec_add: function 94 -/
def impl_Vec_add.f (a0_0 : Int) (a0_1 : Int) (a1_0 : Int) (a1_1 : Int) : Option (Int × Int) := some (wrap64 (a0_0 + a1_0), wrap64 (a0_1 + a1_1))
set_option maxHeartbeats 8000000 in
set_option maxRecDepth 100000 in
theorem impl_Vec_add.calls (a0_0 : Int) (a0_1 : Int) (a1_0 : Int) (a1_1 : Int) (r1 : Int) (r2 : Int) (w : World) (h : impl_Vec_add.f a0_0 a0_1 a1_0 a1_1 = some (r1, r2)) :
  Calls Try.prog 94 #[.agg #[.int .i64 a0_0, .int .i64 a0_1], .agg #[.int .i64 a1_0, .int .i64 a1_1]] w fun e w' => e = .returned (.agg #[.int .i64 r1, .int .i64 r2]) ∧ Below w.heap.size w w' := by
 have hu34 := Try.underlying34
 have HB := Aside0.mk (Below.refl w.heap.size w)
 have H : (some (wrap64 (a0_0 + a1_0), wrap64 (a0_1 + a1_1))) = some (r1, r2) := h
 clear h
 simp only [Option.some.injEq, Prod.mk.injEq] at H
 obtain ⟨rfl, rfl⟩ := H
 go_enter Try.func94, Try.ntmps94
 go_wp2_with (first | ((with_reducible refine gate_dst (N := 2) rfl ?_); refine box_event ?hg (N := 2) ?hd (cs := #[.int .i64 a0_0, .int .i64 a0_1]) (t := 34) ?hr ?_; (case hd => rfl); (case hg => rfl); (case hr => first | (go_simp; done) | (go_simp; rfl)); intro gb399 hg w3 hbox hb; have BK399 := Aside0.mk (hbox); have GW399 := ngw0 hg HB; have GE399 := ngw0 hg HB; replace HB := Aside0.mk (bst0 HB hb); clear hb hbox hg) | ((with_reducible refine gate_dst (N := 3) rfl ?_); refine box_event ?hg (N := 3) ?hd (cs := #[.int .i64 a1_0, .int .i64 a1_1]) (t := 34) ?hr ?_; (case hd => rfl); (case hg => rfl); (case hr => first | (go_simp; done) | (go_simp; rfl)); intro gb400 hg w4 hbox hb; have BK400 := Aside0.mk (hbox); have GW400 := ngw1 hg HB GE399; have GE400 := ngw1 hg HB GE399; replace HB := Aside0.mk (bst1 HB GE399 hb); have NB399_400 := nlt hg BK399; have NB400_399 := nsy (nlt hg BK399); replace BK399 := Aside0.mk (bbl BK399 hb); clear hb hbox hg) | ((with_reducible refine gate_dst (N := 4) rfl ?_); refine box_event ?hg (N := 4) ?hd (cs := #[.int .i64 0, .int .i64 0]) (t := 34) ?hr ?_; (case hd => rfl); (case hg => rfl); (case hr => first | (go_simp; done) | (go_simp; rfl)); intro gb401 hg w5 hbox hb; have BK401 := Aside0.mk (hbox); have GW401 := ngw2 hg HB GE399 GE400; have GE401 := ngw2 hg HB GE399 GE400; replace HB := Aside0.mk (bst2 HB GE399 GE400 hb); have NB399_401 := nlt hg BK399; have NB401_399 := nsy (nlt hg BK399); replace BK399 := Aside0.mk (bbl BK399 hb); have NB400_401 := nlt hg BK400; have NB401_400 := nsy (nlt hg BK400); replace BK400 := Aside0.mk (bbl BK400 hb); clear hb hbox hg; have hnb6 := NB399_400.out; have hnc6 := NB400_399.out; have hnb7 := NB399_401.out; have hnc7 := NB401_399.out; obtain ⟨hcz8_0, hcz8_1, hfz8_0, hfz8_1⟩ := bz2 BK399; have hnb9 := NB400_401.out; have hnc9 := NB401_400.out; obtain ⟨hcz10_0, hcz10_1, hfz10_0, hfz10_1⟩ := bz2 BK400; obtain ⟨hcz11_0, hcz11_1, hfz11_0, hfz11_1⟩ := bz2 BK401))
 refine bodyPost_ret (results_cell_row rfl _ _ gb401 34 #[.int .i64 (wrap64 (a0_0 + a1_0)), .int .i64 (wrap64 (a0_1 + a1_1))] (0, 0) _ rfl (by (with_reducible repeat (first | refine blk_drewN ?_ _ | refine blk_drew ?_ | refine blk_alloc ?_ _)); refine blk_put (cs := #[.int .i64 (wrap64 (a0_0 + a1_0)), .int .i64 0]) ?_ 1 _ rfl; (with_reducible repeat (first | refine blk_drewN ?_ _ | refine blk_drew ?_ | refine blk_alloc ?_ _)); refine blk_put (cs := #[.int .i64 0, .int .i64 0]) ?_ 0 _ rfl; (with_reducible repeat (first | refine blk_drewN ?_ _ | refine blk_drew ?_ | refine blk_alloc ?_ _)); exact BK401.out) Try.underlying34 rfl (by kernel_rfl)) rfl ?_
 exact ⟨by first | rfl | (simp [errW_none, errW_some] <;> rfl) | (simp [*, errW_none, errW_some] <;> rfl), bbw3 HB GE399 GE400 GE401⟩

/-! ### impl_Mat_times: function 136 -/
def impl_Mat_times.f (a0_0 : Int) (a0_1 : Int) (a0_2 : Int) (a0_3 : Int) (a1_0 : Int) (a1_1 : Int) (a1_2 : Int) (a1_3 : Int) : Option (Int × Int × Int × Int) := some (wrap64 ((wrap64 (a0_0 * a1_0)) + (wrap64 (a0_1 * a1_2))), wrap64 ((wrap64 (a0_0 * a1_1)) + (wrap64 (a0_1 * a1_3))), wrap64 ((wrap64 (a0_2 * a1_0)) + (wrap64 (a0_3 * a1_2))), wrap64 ((wrap64 (a0_2 * a1_1)) + (wrap64 (a0_3 * a1_3))))
set_option maxHeartbeats 8000000 in
set_option maxRecDepth 100000 in
theorem impl_Mat_times.calls (a0_0 : Int) (a0_1 : Int) (a0_2 : Int) (a0_3 : Int) (a1_0 : Int) (a1_1 : Int) (a1_2 : Int) (a1_3 : Int) (r1 : Int) (r2 : Int) (r3 : Int) (r4 : Int) (w : World) (h : impl_Mat_times.f a0_0 a0_1 a0_2 a0_3 a1_0 a1_1 a1_2 a1_3 = some (r1, r2, r3, r4)) :
  Calls Try.prog 136 #[.agg #[.int .i64 a0_0, .int .i64 a0_1, .int .i64 a0_2, .int .i64 a0_3], .agg #[.int .i64 a1_0, .int .i64 a1_1, .int .i64 a1_2, .int .i64 a1_3]] w fun e w' => e = .returned (.agg #[.int .i64 r1, .int .i64 r2, .int .i64 r3, .int .i64 r4]) ∧ Below w.heap.size w w' := by
 have hu33 := Try.underlying33
 have HB := Aside0.mk (Below.refl w.heap.size w)
 have H : (some (wrap64 ((wrap64 (a0_0 * a1_0)) + (wrap64 (a0_1 * a1_2))), wrap64 ((wrap64 (a0_0 * a1_1)) + (wrap64 (a0_1 * a1_3))), wrap64 ((wrap64 (a0_2 * a1_0)) + (wrap64 (a0_3 * a1_2))), wrap64 ((wrap64 (a0_2 * a1_1)) + (wrap64 (a0_3 * a1_3))))) = some (r1, r2, r3, r4) := h
 clear h
 simp only [Option.some.injEq, Prod.mk.injEq] at H
 obtain ⟨rfl, rfl, rfl, rfl⟩ := H
 go_enter Try.func136, Try.ntmps136
 go_wp2_with (first | ((with_reducible refine gate_dst (N := 2) rfl ?_); refine box_event ?hg (N := 2) ?hd (cs := #[.int .i64 a0_0, .int .i64 a0_1, .int .i64 a0_2, .int .i64 a0_3]) (t := 33) ?hr ?_; (case hd => rfl); (case hg => rfl); (case hr => first | (go_simp; done) | (go_simp; rfl)); intro gb402 hg w3 hbox hb; have BK402 := Aside0.mk (hbox); have GW402 := ngw0 hg HB; have GE402 := ngw0 hg HB; replace HB := Aside0.mk (bst0 HB hb); clear hb hbox hg) | ((with_reducible refine gate_dst (N := 3) rfl ?_); refine box_event ?hg (N := 3) ?hd (cs := #[.int .i64 a1_0, .int .i64 a1_1, .int .i64 a1_2, .int .i64 a1_3]) (t := 33) ?hr ?_; (case hd => rfl); (case hg => rfl); (case hr => first | (go_simp; done) | (go_simp; rfl)); intro gb403 hg w4 hbox hb; have BK403 := Aside0.mk (hbox); have GW403 := ngw1 hg HB GE402; have GE403 := ngw1 hg HB GE402; replace HB := Aside0.mk (bst1 HB GE402 hb); have NB402_403 := nlt hg BK402; have NB403_402 := nsy (nlt hg BK402); replace BK402 := Aside0.mk (bbl BK402 hb); clear hb hbox hg) | ((with_reducible refine gate_dst (N := 4) rfl ?_); refine box_event ?hg (N := 4) ?hd (cs := #[.int .i64 0, .int .i64 0, .int .i64 0, .int .i64 0]) (t := 33) ?hr ?_; (case hd => rfl); (case hg => rfl); (case hr => first | (go_simp; done) | (go_simp; rfl)); intro gb404 hg w5 hbox hb; have BK404 := Aside0.mk (hbox); have GW404 := ngw2 hg HB GE402 GE403; have GE404 := ngw2 hg HB GE402 GE403; replace HB := Aside0.mk (bst2 HB GE402 GE403 hb); have NB402_404 := nlt hg BK402; have NB404_402 := nsy (nlt hg BK402); replace BK402 := Aside0.mk (bbl BK402 hb); have NB403_404 := nlt hg BK403; have NB404_403 := nsy (nlt hg BK403); replace BK403 := Aside0.mk (bbl BK403 hb); clear hb hbox hg; have hnb6 := NB402_403.out; have hnc6 := NB403_402.out; have hnb7 := NB402_404.out; have hnc7 := NB404_402.out; obtain ⟨hcz8_0, hcz8_1, hcz8_2, hcz8_3, hfz8_0, hfz8_1, hfz8_2, hfz8_3⟩ := bz4 BK402; have hnb9 := NB403_404.out; have hnc9 := NB404_403.out; obtain ⟨hcz10_0, hcz10_1, hcz10_2, hcz10_3, hfz10_0, hfz10_1, hfz10_2, hfz10_3⟩ := bz4 BK403; obtain ⟨hcz11_0, hcz11_1, hcz11_2, hcz11_3, hfz11_0, hfz11_1, hfz11_2, hfz11_3⟩ := bz4 BK404))
 refine bodyPost_ret (results_cell_row rfl _ _ gb404 33 #[.int .i64 (wrap64 ((wrap64 (a0_0 * a1_0)) + (wrap64 (a0_1 * a1_2)))), .int .i64 (wrap64 ((wrap64 (a0_0 * a1_1)) + (wrap64 (a0_1 * a1_3)))), .int .i64 (wrap64 ((wrap64 (a0_2 * a1_0)) + (wrap64 (a0_3 * a1_2)))), .int .i64 (wrap64 ((wrap64 (a0_2 * a1_1)) + (wrap64 (a0_3 * a1_3))))] (0, 0) _ rfl (by (with_reducible repeat (first | refine blk_drewN ?_ _ | refine blk_drew ?_ | refine blk_alloc ?_ _)); refine blk_put (cs := #[.int .i64 (wrap64 ((wrap64 (a0_0 * a1_0)) + (wrap64 (a0_1 * a1_2)))), .int .i64 (wrap64 ((wrap64 (a0_0 * a1_1)) + (wrap64 (a0_1 * a1_3)))), .int .i64 (wrap64 ((wrap64 (a0_2 * a1_0)) + (wrap64 (a0_3 * a1_2)))), .int .i64 0]) ?_ 3 _ rfl; (with_reducible repeat (first | refine blk_drewN ?_ _ | refine blk_drew ?_ | refine blk_alloc ?_ _)); refine blk_put (cs := #[.int .i64 (wrap64 ((wrap64 (a0_0 * a1_0)) + (wrap64 (a0_1 * a1_2)))), .int .i64 (wrap64 ((wrap64 (a0_0 * a1_1)) + (wrap64 (a0_1 * a1_3)))), .int .i64 0, .int .i64 0]) ?_ 2 _ rfl; (with_reducible repeat (first | refine blk_drewN ?_ _ | refine blk_drew ?_ | refine blk_alloc ?_ _)); refine blk_put (cs := #[.int .i64 (wrap64 ((wrap64 (a0_0 * a1_0)) + (wrap64 (a0_1 * a1_2)))), .int .i64 0, .int .i64 0, .int .i64 0]) ?_ 1 _ rfl; (with_reducible repeat (first | refine blk_drewN ?_ _ | refine blk_drew ?_ | refine blk_alloc ?_ _)); refine blk_put (cs := #[.int .i64 0, .int .i64 0, .int .i64 0, .int .i64 0]) ?_ 0 _ rfl; (with_reducible repeat (first | refine blk_drewN ?_ _ | refine blk_drew ?_ | refine blk_alloc ?_ _)); exact BK404.out) Try.underlying33 rfl (by kernel_rfl)) rfl ?_
 exact ⟨by first | rfl | (simp [errW_none, errW_some] <;> rfl) | (simp [*, errW_none, errW_some] <;> rfl), bbw3 HB GE402 GE403 GE404⟩
end Go.Proofs.Ytndfnaehpdkaiaa.PB
